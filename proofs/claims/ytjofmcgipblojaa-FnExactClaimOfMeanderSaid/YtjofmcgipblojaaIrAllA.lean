/-
  Texts of the little language.
-/
import Derived.Test.YtjofmcgipblojaaCatThree
namespace Go.Cat
/-- loop.example/g03401/laws.eqClaim -/
def ir_laws_eqClaim : IF := ⟨[], 2, 12, [4],
 (.seq (.reg [⟨[], [], .bp (.e 0)⟩, ⟨[], [], .bp (.e 1)⟩, ⟨[], [], .cs .v (.b false)⟩] [none, none, some 12, some 13, none, none, none, none, none, none, none, none])
 ((.seq ((.seq (.reg [⟨[], [], .fp true (.e 2) 0⟩, ⟨[], [], .nop⟩, ⟨[], [], .fp true (.e 3) 0⟩, ⟨[], [], .nop⟩, ⟨[], [], .bi .neq (.e 12) (.e 13)⟩] [none, none, some 2, some 3, none, some 14, none, none, none, none, none, none])
 (.cond 5 ((.seq (.reg [⟨[], [], .cs .v (.b false)⟩] [none, none, none, none, some 12, none, none, none, none, none, none, none])
  (.ret))) (.skip))))
 ((.seq ((.seq (.reg [⟨[], [], .fp true (.e 2) 1⟩, ⟨[], [], .nop⟩, ⟨[], [], .fp true (.e 3) 1⟩, ⟨[], [], .nop⟩, ⟨[], [], .bi .neq (.e 12) (.e 13)⟩] [none, none, some 2, some 3, none, none, some 14, none, none, none, none, none])
 (.cond 6 ((.seq (.reg [⟨[], [], .cs .v (.b false)⟩] [none, none, none, none, some 12, none, none, none, none, none, none, none])
  (.ret))) (.skip))))
 ((.seq ((.seq (.reg [⟨[], [], .fp true (.e 2) 2⟩, ⟨[], [], .nop⟩, ⟨[], [], .fp true (.e 3) 2⟩, ⟨[], [], .nop⟩, ⟨[], [], .bi .neq (.e 12) (.e 13)⟩] [none, none, some 2, some 3, none, none, none, some 14, none, none, none, none])
 (.cond 7 ((.seq (.reg [⟨[], [], .cs .v (.b false)⟩] [none, none, none, none, some 12, none, none, none, none, none, none, none])
  (.ret))) (.skip))))
 ((.seq ((.seq (.reg [⟨[], [], .fp false (.e 2) 3⟩, ⟨[], [], .nop⟩, ⟨[], [], .fp false (.e 3) 3⟩, ⟨[], [], .nop⟩, ⟨[], [], .ca 15 [(.e 12), (.e 13)] 1⟩, ⟨[], [], .un .not (.e 14)⟩] [none, none, some 2, some 3, none, none, none, none, some 15, none, none, none])
 (.cond 8 ((.seq (.reg [⟨[], [], .cs .v (.b false)⟩] [none, none, none, none, some 12, none, none, none, none, none, none, none])
  (.ret))) (.skip))))
 ((.seq ((.seq (.reg [⟨[], [], .fp false (.e 2) 4⟩, ⟨[], [], .nop⟩, ⟨[], [], .fp false (.e 3) 4⟩, ⟨[], [], .nop⟩, ⟨[], [], .ca 44 [(.e 12), (.e 13)] 1⟩, ⟨[], [], .un .not (.e 14)⟩] [none, none, some 2, some 3, none, none, none, none, none, some 15, none, none])
 (.cond 9 ((.seq (.reg [⟨[], [], .cs .v (.b false)⟩] [none, none, none, none, some 12, none, none, none, none, none, none, none])
  (.ret))) (.skip))))
 ((.seq ((.seq (.reg [⟨[], [], .fp false (.e 2) 5⟩, ⟨[], [], .nop⟩, ⟨[], [], .fp false (.e 3) 5⟩, ⟨[], [], .nop⟩, ⟨[], [], .ca 44 [(.e 12), (.e 13)] 1⟩, ⟨[], [], .un .not (.e 14)⟩] [none, none, some 2, some 3, none, none, none, none, none, none, some 15, none])
 (.cond 10 ((.seq (.reg [⟨[], [], .cs .v (.b false)⟩] [none, none, none, none, some 12, none, none, none, none, none, none, none])
  (.ret))) (.skip))))
 ((.seq ((.seq (.reg [⟨[], [], .fp false (.e 2) 6⟩, ⟨[], [], .nop⟩, ⟨[], [], .fp false (.e 3) 6⟩, ⟨[], [], .nop⟩, ⟨[], [], .ca 155 [(.e 12), (.e 13)] 1⟩, ⟨[], [], .un .not (.e 14)⟩] [none, none, none, none, none, none, none, none, none, none, none, some 15])
 (.cond 11 ((.seq (.reg [⟨[], [], .cs .v (.b false)⟩] [none, none, none, none, some 12, none, none, none, none, none, none, none])
  (.ret))) (.skip))))
 ((.seq (.reg [⟨[], [], .cs .v (.b true)⟩] [none, none, none, none, some 12, none, none, none, none, none, none, none])
 (.ret))))))))))))))))))⟩

/-- loop.example/g03401/laws.eqIntS -/
def ir_laws_eqIntS : IF := ⟨[], 2, 7, [2],
 (.seq (.reg [⟨[], [], .cs .v (.b false)⟩] [some 0, some 1, none, none, none, none, none])
 ((.seq ((.seq (.reg [⟨[], [], .nop⟩, ⟨[], [], .ln (.e 0) []⟩, ⟨[], [], .nop⟩, ⟨[], [], .ln (.e 1) []⟩, ⟨[], [], .bi .neq (.e 7) (.e 8)⟩] [some 0, some 1, none, none, some 9, none, none])
 (.cond 4 ((.seq (.reg [⟨[], [], .cs .v (.b false)⟩] [none, none, some 7, none, none, none, none])
  (.ret))) (.skip))))
 ((.seq ((.seq (.reg [⟨[], [], .cs .v (.n 0)⟩] [some 0, some 1, none, some 7, none, none, none])
 (.block 0 (.loop ((.seq ((.seq (.reg [⟨[], [], .nop⟩, ⟨[], [], .nop⟩, ⟨[], [], .ln (.e 0) []⟩, ⟨[], [], .bi .lss (.e 3) (.e 7)⟩] [some 0, some 1, none, some 3, none, some 8, none])
   (.cond 5 (.skip) (.exit 0))))
   ((.seq (.block 1 ((.seq (.reg [⟨[], [], .nop⟩, ⟨[], [], .nop⟩, ⟨[], [], .iy (.e 0) (.e 3)⟩, ⟨[], [], .nop⟩, ⟨[], [], .nop⟩, ⟨[], [], .nop⟩, ⟨[], [], .iy (.e 1) (.e 3)⟩, ⟨[], [], .nop⟩, ⟨[], [], .bi .neq (.e 7) (.e 8)⟩] [some 0, some 1, none, some 3, none, none, some 9])
    (.cond 6 ((.seq (.reg [⟨[], [], .cs .v (.b false)⟩] [none, none, some 7, none, none, none, none])
     (.ret))) (.skip)))))
   (.reg [⟨[], [], .nop⟩, ⟨[], [], .bi .add (.e 3) (.c (.n 1))⟩, ⟨[], [], .nop⟩] [some 0, some 1, none, some 7, none, none, none])))))))))
 ((.seq (.reg [⟨[], [], .cs .v (.b true)⟩] [none, none, some 7, none, none, none, none])
 (.ret))))))))⟩

/-- loop.example/g03401/laws.eqIntSS -/
def ir_laws_eqIntSS : IF := ⟨[], 2, 7, [2],
 (.seq (.reg [⟨[], [], .cs .v (.b false)⟩] [some 0, some 1, none, none, none, none, none])
 ((.seq ((.seq (.reg [⟨[], [], .nop⟩, ⟨[], [], .ln (.e 0) []⟩, ⟨[], [], .nop⟩, ⟨[], [], .ln (.e 1) []⟩, ⟨[], [], .bi .neq (.e 7) (.e 8)⟩] [some 0, some 1, none, none, some 9, none, none])
 (.cond 4 ((.seq (.reg [⟨[], [], .cs .v (.b false)⟩] [none, none, some 7, none, none, none, none])
  (.ret))) (.skip))))
 ((.seq ((.seq (.reg [⟨[], [], .cs .v (.n 0)⟩] [some 0, some 1, none, some 7, none, none, none])
 (.block 0 (.loop ((.seq ((.seq (.reg [⟨[], [], .nop⟩, ⟨[], [], .nop⟩, ⟨[], [], .ln (.e 0) []⟩, ⟨[], [], .bi .lss (.e 3) (.e 7)⟩] [some 0, some 1, none, some 3, none, some 8, none])
   (.cond 5 (.skip) (.exit 0))))
   ((.seq (.block 1 ((.seq (.reg [⟨[], [], .nop⟩, ⟨[], [], .nop⟩, ⟨[], [], .ix (.e 0) [] (.e 3)⟩, ⟨[], [], .nop⟩, ⟨[], [], .nop⟩, ⟨[], [], .nop⟩, ⟨[], [], .ix (.e 1) [] (.e 3)⟩, ⟨[], [], .nop⟩, ⟨[], [], .ca 44 [(.e 7), (.e 8)] 1⟩, ⟨[], [], .un .not (.e 9)⟩] [some 0, some 1, none, some 3, none, none, some 10])
    (.cond 6 ((.seq (.reg [⟨[], [], .cs .v (.b false)⟩] [none, none, some 7, none, none, none, none])
     (.ret))) (.skip)))))
   (.reg [⟨[], [], .nop⟩, ⟨[], [], .bi .add (.e 3) (.c (.n 1))⟩, ⟨[], [], .nop⟩] [some 0, some 1, none, some 7, none, none, none])))))))))
 ((.seq (.reg [⟨[], [], .cs .v (.b true)⟩] [none, none, some 7, none, none, none, none])
 (.ret))))))))⟩

/-- loop.example/g03401/laws.eqStringS -/
def ir_laws_eqStringS : IF := ⟨[], 2, 7, [2],
 (.seq (.reg [⟨[], [], .cs .v (.b false)⟩] [some 0, some 1, none, none, none, none, none])
 ((.seq ((.seq (.reg [⟨[], [], .nop⟩, ⟨[], [], .ln (.e 0) []⟩, ⟨[], [], .nop⟩, ⟨[], [], .ln (.e 1) []⟩, ⟨[], [], .bi .neq (.e 7) (.e 8)⟩] [some 0, some 1, none, none, some 9, none, none])
 (.cond 4 ((.seq (.reg [⟨[], [], .cs .v (.b false)⟩] [none, none, some 7, none, none, none, none])
  (.ret))) (.skip))))
 ((.seq ((.seq (.reg [⟨[], [], .cs .v (.n 0)⟩] [some 0, some 1, none, some 7, none, none, none])
 (.block 0 (.loop ((.seq ((.seq (.reg [⟨[], [], .nop⟩, ⟨[], [], .nop⟩, ⟨[], [], .ln (.e 0) []⟩, ⟨[], [], .bi .lss (.e 3) (.e 7)⟩] [some 0, some 1, none, some 3, none, some 8, none])
   (.cond 5 (.skip) (.exit 0))))
   ((.seq (.block 1 ((.seq (.reg [⟨[], [], .nop⟩, ⟨[], [], .nop⟩, ⟨[], [], .iy (.e 0) (.e 3)⟩, ⟨[], [], .nop⟩, ⟨[], [], .nop⟩, ⟨[], [], .nop⟩, ⟨[], [], .iy (.e 1) (.e 3)⟩, ⟨[], [], .nop⟩, ⟨[], [], .bi .neq (.e 7) (.e 8)⟩] [some 0, some 1, none, some 3, none, none, some 9])
    (.cond 6 ((.seq (.reg [⟨[], [], .cs .v (.b false)⟩] [none, none, some 7, none, none, none, none])
     (.ret))) (.skip)))))
   (.reg [⟨[], [], .nop⟩, ⟨[], [], .bi .add (.e 3) (.c (.n 1))⟩, ⟨[], [], .nop⟩] [some 0, some 1, none, some 7, none, none, none])))))))))
 ((.seq (.reg [⟨[], [], .cs .v (.b true)⟩] [none, none, some 7, none, none, none, none])
 (.ret))))))))⟩

/-- loop.example/g03401/laws.heldClaim -/
def ir_laws_heldClaim : IF := ⟨[], 2, 8, [3],
 (.seq (.reg [⟨[], [], .bp (.e 0)⟩, ⟨[], [], .cs .v (.n 0)⟩] [none, some 1, some 8, none, none, none, none, none])
 ((.seq (.reg [⟨[], [], .fp false (.e 2) 3⟩, ⟨[], [], .nop⟩, ⟨[], [], .nop⟩, ⟨[], [], .ca 17 [(.e 8), (.e 1)] 1⟩, ⟨[], [], .nop⟩] [none, some 9, some 2, none, none, none, none, none])
 ((.seq ((.seq (.reg [⟨[], [], .nop⟩, ⟨[], [], .bi .lss (.e 1) (.c (.n 0))⟩] [none, some 1, some 2, none, some 8, none, none, none])
 (.cond 4 ((.seq (.reg [⟨[], [], .cs .v (.n (-1))⟩] [none, none, none, some 8, none, none, none, none])
  (.ret))) (.skip))))
 ((.seq (.reg [⟨[], [], .fp false (.e 2) 4⟩, ⟨[], [], .nop⟩, ⟨[], [], .nop⟩, ⟨[], [], .ca 46 [(.e 8), (.e 1)] 1⟩, ⟨[], [], .nop⟩] [none, some 9, some 2, none, none, none, none, none])
 ((.seq ((.seq (.reg [⟨[], [], .nop⟩, ⟨[], [], .bi .lss (.e 1) (.c (.n 0))⟩] [none, some 1, some 2, none, none, some 8, none, none])
 (.cond 5 ((.seq (.reg [⟨[], [], .cs .v (.n (-1))⟩] [none, none, none, some 8, none, none, none, none])
  (.ret))) (.skip))))
 ((.seq (.reg [⟨[], [], .fp false (.e 2) 5⟩, ⟨[], [], .nop⟩, ⟨[], [], .nop⟩, ⟨[], [], .ca 46 [(.e 8), (.e 1)] 1⟩, ⟨[], [], .nop⟩] [none, some 9, some 2, none, none, none, none, none])
 ((.seq ((.seq (.reg [⟨[], [], .nop⟩, ⟨[], [], .bi .lss (.e 1) (.c (.n 0))⟩] [none, some 1, some 2, none, none, none, some 8, none])
 (.cond 6 ((.seq (.reg [⟨[], [], .cs .v (.n (-1))⟩] [none, none, none, some 8, none, none, none, none])
  (.ret))) (.skip))))
 ((.seq (.reg [⟨[], [], .fp false (.e 2) 6⟩, ⟨[], [], .nop⟩, ⟨[], [], .nop⟩, ⟨[], [], .ca 159 [(.e 8), (.e 1)] 1⟩, ⟨[], [], .nop⟩] [none, some 9, none, none, none, none, none, none])
 ((.seq ((.seq (.reg [⟨[], [], .nop⟩, ⟨[], [], .bi .lss (.e 1) (.c (.n 0))⟩] [none, some 1, none, none, none, none, none, some 8])
 (.cond 7 ((.seq (.reg [⟨[], [], .cs .v (.n (-1))⟩] [none, none, none, some 8, none, none, none, none])
  (.ret))) (.skip))))
 ((.seq (.reg [⟨[], [], .nop⟩, ⟨[], [], .nop⟩] [none, none, none, some 1, none, none, none, none])
 (.ret))))))))))))))))))))⟩

/-- loop.example/g03401/laws.heldIntS -/
def ir_laws_heldIntS : IF := ⟨[], 2, 6, [2],
 (.seq (.reg [⟨[], [], .cs .v (.n 0)⟩] [some 0, some 1, none, none, none, none])
 ((.seq ((.seq (.reg [⟨[], [], .cs .v (.n 0)⟩] [some 0, some 1, none, some 6, none, none])
 (.block 0 (.loop ((.seq ((.seq (.reg [⟨[], [], .nop⟩, ⟨[], [], .nop⟩, ⟨[], [], .ln (.e 0) []⟩, ⟨[], [], .bi .lss (.e 3) (.e 6)⟩] [some 0, some 1, none, some 3, some 7, none])
   (.cond 4 (.skip) (.exit 0))))
   ((.seq (.block 1 ((.seq ((.seq (.reg [⟨[], [], .nop⟩, ⟨[], [], .nop⟩, ⟨[], [], .iy (.e 0) (.e 3)⟩, ⟨[], [], .nop⟩, ⟨[], [], .nop⟩, ⟨[], [], .bi .neq (.e 6) (.e 1)⟩] [some 0, some 1, none, some 3, none, some 7])
    (.cond 5 ((.seq (.reg [⟨[], [], .cs .v (.n (-1))⟩] [none, none, some 6, none, none, none])
     (.ret))) (.skip))))
    (.reg [⟨[], [], .nop⟩, ⟨[], [], .bi .add (.e 1) (.c (.n 1))⟩, ⟨[], [], .nop⟩] [some 0, some 6, none, some 3, none, none]))))
   (.reg [⟨[], [], .nop⟩, ⟨[], [], .bi .add (.e 3) (.c (.n 1))⟩, ⟨[], [], .nop⟩] [some 0, some 1, none, some 6, none, none])))))))))
 ((.seq (.reg [⟨[], [], .nop⟩, ⟨[], [], .nop⟩] [none, none, some 1, none, none, none])
 (.ret))))))⟩

/-- loop.example/g03401/laws.heldIntSS -/
def ir_laws_heldIntSS : IF := ⟨[], 2, 6, [2],
 (.seq (.reg [⟨[], [], .cs .v (.n 0)⟩] [some 0, some 1, none, none, none, none])
 ((.seq ((.seq (.reg [⟨[], [], .cs .v (.n 0)⟩] [some 0, some 1, none, some 6, none, none])
 (.block 0 (.loop ((.seq ((.seq (.reg [⟨[], [], .nop⟩, ⟨[], [], .nop⟩, ⟨[], [], .ln (.e 0) []⟩, ⟨[], [], .bi .lss (.e 3) (.e 6)⟩] [some 0, some 1, none, some 3, some 7, none])
   (.cond 4 (.skip) (.exit 0))))
   ((.seq (.block 1 ((.seq (.reg [⟨[], [], .nop⟩, ⟨[], [], .nop⟩, ⟨[], [], .ix (.e 0) [] (.e 3)⟩, ⟨[], [], .nop⟩, ⟨[], [], .nop⟩, ⟨[], [], .ca 46 [(.e 6), (.e 1)] 1⟩, ⟨[], [], .nop⟩] [some 0, some 7, none, some 3, none, none])
    ((.seq (.reg [⟨[], [], .nop⟩, ⟨[], [], .bi .lss (.e 1) (.c (.n 0))⟩] [some 0, some 1, none, some 3, none, some 6])
    (.cond 5 ((.seq (.reg [⟨[], [], .cs .v (.n (-1))⟩] [none, none, some 6, none, none, none])
     (.ret))) (.skip)))))))
   (.reg [⟨[], [], .nop⟩, ⟨[], [], .bi .add (.e 3) (.c (.n 1))⟩, ⟨[], [], .nop⟩] [some 0, some 1, none, some 6, none, none])))))))))
 ((.seq (.reg [⟨[], [], .nop⟩, ⟨[], [], .nop⟩] [none, none, some 1, none, none, none])
 (.ret))))))⟩

/-- loop.example/g03401/laws.heldStringS -/
def ir_laws_heldStringS : IF := ⟨[], 2, 6, [2],
 (.seq (.reg [⟨[], [], .cs .v (.n 0)⟩] [some 0, some 1, none, none, none, none])
 ((.seq ((.seq (.reg [⟨[], [], .cs .v (.n 0)⟩] [some 0, some 1, none, some 6, none, none])
 (.block 0 (.loop ((.seq ((.seq (.reg [⟨[], [], .nop⟩, ⟨[], [], .nop⟩, ⟨[], [], .ln (.e 0) []⟩, ⟨[], [], .bi .lss (.e 3) (.e 6)⟩] [some 0, some 1, none, some 3, some 7, none])
   (.cond 4 (.skip) (.exit 0))))
   ((.seq (.block 1 ((.seq ((.seq (.reg [⟨[], [], .nop⟩, ⟨[], [], .nop⟩, ⟨[], [], .iy (.e 0) (.e 3)⟩, ⟨[], [], .nop⟩, ⟨[], [], .nop⟩, ⟨[], [], .ca 26 [(.e 1)] 1⟩, ⟨[], [], .bi .neq (.e 6) (.e 7)⟩] [some 0, some 1, none, some 3, none, some 8])
    (.cond 5 ((.seq (.reg [⟨[], [], .cs .v (.n (-1))⟩] [none, none, some 6, none, none, none])
     (.ret))) (.skip))))
    (.reg [⟨[], [], .nop⟩, ⟨[], [], .bi .add (.e 1) (.c (.n 1))⟩, ⟨[], [], .nop⟩] [some 0, some 6, none, some 3, none, none]))))
   (.reg [⟨[], [], .nop⟩, ⟨[], [], .bi .add (.e 3) (.c (.n 1))⟩, ⟨[], [], .nop⟩] [some 0, some 1, none, some 6, none, none])))))))))
 ((.seq (.reg [⟨[], [], .nop⟩, ⟨[], [], .nop⟩] [none, none, some 1, none, none, none])
 (.ret))))))⟩

/-- loop.example/g03401/laws.markClaim -/
def ir_laws_markClaim : IF := ⟨[], 2, 4, [3, 0],
 (.seq (.reg [⟨[], [], .wl 7 (.e 0)⟩, ⟨[], [], .cs .v (.n 0)⟩, ⟨[], [], .gt (.e 4) [.k 3]⟩, ⟨[], [], .nop⟩, ⟨[], [], .nop⟩, ⟨[], [], .sp 4 [.k 3] 1⟩, ⟨[], [], .ca 16 [(.e 7), (.e 1)] 2⟩, ⟨[], [], .jn 8 [.k 3] (.e 10) 1⟩, ⟨[], [], .nop⟩, ⟨[], [], .gt (.e 11) [.k 4]⟩, ⟨[], [], .nop⟩, ⟨[], [], .nop⟩, ⟨[], [], .sp 11 [.k 4] 1⟩, ⟨[], [], .ca 45 [(.e 13), (.e 9)] 2⟩, ⟨[], [], .jn 14 [.k 4] (.e 16) 1⟩, ⟨[], [], .nop⟩, ⟨[], [], .gt (.e 17) [.k 5]⟩, ⟨[], [], .nop⟩, ⟨[], [], .nop⟩, ⟨[], [], .sp 17 [.k 5] 1⟩, ⟨[], [], .ca 45 [(.e 19), (.e 15)] 2⟩, ⟨[], [], .jn 20 [.k 5] (.e 22) 1⟩, ⟨[], [], .nop⟩, ⟨[], [], .gt (.e 23) [.k 6]⟩, ⟨[], [], .nop⟩, ⟨[], [], .nop⟩, ⟨[], [], .sp 23 [.k 6] 2⟩, ⟨[], [], .ca 158 [(.e 25), (.e 21)] 2⟩, ⟨[], [], .jn 26 [.k 6] (.e 28) 2⟩, ⟨[], [], .nop⟩, ⟨[], [], .nop⟩, ⟨[], [], .nop⟩, ⟨[], [], .sw 29⟩] [some 30, none, none, some 27])
 (.ret))⟩

/-- loop.example/g03401/laws.markIntS -/
def ir_laws_markIntS : IF := ⟨[], 2, 5, [2, 0],
 (.seq (.reg [⟨[], [], .cs .v (.n 0)⟩] [some 0, some 1, none, none, none])
 ((.seq ((.seq (.reg [⟨[], [], .cs .v (.n 0)⟩] [some 0, some 1, none, some 5, none])
 (.block 0 (.loop ((.seq ((.seq (.reg [⟨[], [], .nop⟩, ⟨[], [], .nop⟩, ⟨[], [], .ln (.e 0) []⟩, ⟨[], [], .bi .lss (.e 3) (.e 5)⟩] [some 0, some 1, none, some 3, some 6])
   (.cond 4 (.skip) (.exit 0))))
   ((.seq (.block 1 ((.seq (.reg [⟨[], [], .nop⟩, ⟨[], [], .nop⟩, ⟨[], [], .nop⟩, ⟨[], [], .ix (.e 0) [] (.e 3)⟩, ⟨[], [], .up 0 [.e 3] (.e 1)⟩] [some 6, some 1, none, some 3, none])
    (.reg [⟨[], [], .nop⟩, ⟨[], [], .bi .add (.e 1) (.c (.n 1))⟩, ⟨[], [], .nop⟩] [some 0, some 5, none, some 3, none]))))
   (.reg [⟨[], [], .nop⟩, ⟨[], [], .bi .add (.e 3) (.c (.n 1))⟩, ⟨[], [], .nop⟩] [some 0, some 1, none, some 5, none])))))))))
 ((.seq (.reg [⟨[], [], .nop⟩, ⟨[], [], .nop⟩] [some 0, none, some 1, none, none])
 (.ret))))))⟩

/-- loop.example/g03401/laws.markIntSS -/
def ir_laws_markIntSS : IF := ⟨[], 2, 5, [2, 0],
 (.seq (.reg [⟨[], [], .cs .v (.n 0)⟩] [some 0, some 1, none, none, none])
 ((.seq ((.seq (.reg [⟨[], [], .cs .v (.n 0)⟩] [some 0, some 1, none, some 5, none])
 (.block 0 (.loop ((.seq ((.seq (.reg [⟨[], [], .nop⟩, ⟨[], [], .nop⟩, ⟨[], [], .ln (.e 0) []⟩, ⟨[], [], .bi .lss (.e 3) (.e 5)⟩] [some 0, some 1, none, some 3, some 6])
   (.cond 4 (.skip) (.exit 0))))
   ((.seq (.block 1 (.reg [⟨[], [], .nop⟩, ⟨[], [], .nop⟩, ⟨[], [], .ix (.e 0) [] (.e 3)⟩, ⟨[], [], .nop⟩, ⟨[], [], .nop⟩, ⟨[], [], .sp 0 [.e 3] 1⟩, ⟨[], [], .ca 45 [(.e 6), (.e 1)] 2⟩, ⟨[], [], .jn 7 [.e 3] (.e 9) 1⟩, ⟨[], [], .nop⟩] [some 10, some 8, none, some 3, none]))
   (.reg [⟨[], [], .nop⟩, ⟨[], [], .bi .add (.e 3) (.c (.n 1))⟩, ⟨[], [], .nop⟩] [some 0, some 1, none, some 5, none])))))))))
 ((.seq (.reg [⟨[], [], .nop⟩, ⟨[], [], .nop⟩] [some 0, none, some 1, none, none])
 (.ret))))))⟩

/-- loop.example/g03401/laws.markStringS -/
def ir_laws_markStringS : IF := ⟨[], 2, 5, [2, 0],
 (.seq (.reg [⟨[], [], .cs .v (.n 0)⟩] [some 0, some 1, none, none, none])
 ((.seq ((.seq (.reg [⟨[], [], .cs .v (.n 0)⟩] [some 0, some 1, none, some 5, none])
 (.block 0 (.loop ((.seq ((.seq (.reg [⟨[], [], .nop⟩, ⟨[], [], .nop⟩, ⟨[], [], .ln (.e 0) []⟩, ⟨[], [], .bi .lss (.e 3) (.e 5)⟩] [some 0, some 1, none, some 3, some 6])
   (.cond 4 (.skip) (.exit 0))))
   ((.seq (.block 1 ((.seq (.reg [⟨[], [], .nop⟩, ⟨[], [], .nop⟩, ⟨[], [], .nop⟩, ⟨[], [], .ca 26 [(.e 1)] 1⟩, ⟨[], [], .ix (.e 0) [] (.e 3)⟩, ⟨[], [], .up 0 [.e 3] (.e 5)⟩] [some 7, some 1, none, some 3, none])
    (.reg [⟨[], [], .nop⟩, ⟨[], [], .bi .add (.e 1) (.c (.n 1))⟩, ⟨[], [], .nop⟩] [some 0, some 5, none, some 3, none]))))
   (.reg [⟨[], [], .nop⟩, ⟨[], [], .bi .add (.e 3) (.c (.n 1))⟩, ⟨[], [], .nop⟩] [some 0, some 1, none, some 5, none])))))))))
 ((.seq (.reg [⟨[], [], .nop⟩, ⟨[], [], .nop⟩] [some 0, none, some 1, none, none])
 (.ret))))))⟩

/-- loop.example/g03401/laws.markText -/
def ir_laws_markText : IF := ⟨[], 1, 5, [1],
 (.seq (.reg [⟨[], [], .cs .v (.s [])⟩] [some 0, none, none, none, none])
 ((.seq ((.seq (.reg [⟨[], [], .nop⟩, ⟨[], [], .bi .leq (.e 0) (.c (.n 0))⟩] [some 0, none, none, some 5, none])
 (.cond 3 ((.seq (.reg [⟨[], [], .cs .v (.s [109, 48])⟩] [none, some 5, none, none, none])
  (.ret))) (.skip))))
 ((.seq (.reg [⟨[], [], .cs .v (.s [])⟩] [some 0, none, some 5, none, none])
 ((.seq (.block 0 (.loop ((.seq ((.seq (.reg [⟨[], [], .nop⟩, ⟨[], [], .bi .gtr (.e 0) (.c (.n 0))⟩] [some 0, none, some 2, none, some 5])
   (.cond 4 (.skip) (.exit 0))))
   (.block 1 ((.seq (.reg [⟨[], [], .nop⟩, ⟨[], [], .bi .rem (.e 0) (.c (.n 10))⟩, ⟨[], [], .bi .add (.c (.n 48)) (.e 5)⟩, ⟨[], [], .cv .u8 (.e 6)⟩, ⟨[], [], .li (.o .v) [(.e 7)]⟩, ⟨[], [], .bs (.e 8)⟩, ⟨[], [], .nop⟩, ⟨[], [], .bi .add (.e 9) (.e 2)⟩, ⟨[], [], .nop⟩] [some 0, none, some 10, none, none])
    (.reg [⟨[], [], .nop⟩, ⟨[], [], .bi .quo (.e 0) (.c (.n 10))⟩, ⟨[], [], .nop⟩] [some 5, none, some 2, none, none]))))))))
 ((.seq (.reg [⟨[], [], .nop⟩, ⟨[], [], .bi .add (.c (.s [109])) (.e 2)⟩, ⟨[], [], .nop⟩] [none, some 5, none, none, none])
 (.ret))))))))))⟩

/-- loop.example/g03401/laws.toIntS -/
def ir_laws_toIntS : IF := ⟨[], 1, 5, [1],
 (.seq (.reg [⟨[], [], .cs (.o .v) (.l [])⟩] [some 0, none, none, none, none])
 ((.seq (.reg [⟨[], [], .nop⟩, ⟨[], [], .ln (.e 0) []⟩, ⟨[], [], .mk (.n 0) (.e 5) (.e 5)⟩, ⟨[], [], .nop⟩] [some 0, none, some 6, none, none])
 ((.seq ((.seq (.reg [⟨[], [], .cs .v (.n 0)⟩] [some 0, none, some 2, some 5, none])
 (.block 0 (.loop ((.seq ((.seq (.reg [⟨[], [], .nop⟩, ⟨[], [], .nop⟩, ⟨[], [], .ln (.e 0) []⟩, ⟨[], [], .bi .lss (.e 3) (.e 5)⟩] [some 0, none, some 2, some 3, some 6])
   (.cond 4 (.skip) (.exit 0))))
   ((.seq (.block 1 (.reg [⟨[], [], .nop⟩, ⟨[], [], .nop⟩, ⟨[], [], .nop⟩, ⟨[], [], .nop⟩, ⟨[], [], .iy (.e 0) (.e 3)⟩, ⟨[], [], .nop⟩, ⟨[], [], .ix (.e 2) [] (.e 3)⟩, ⟨[], [], .up 2 [.e 3] (.e 5)⟩] [some 0, none, some 7, some 3, none]))
   (.reg [⟨[], [], .nop⟩, ⟨[], [], .bi .add (.e 3) (.c (.n 1))⟩, ⟨[], [], .nop⟩] [some 0, none, some 2, some 5, none])))))))))
 ((.seq (.reg [⟨[], [], .nop⟩, ⟨[], [], .nop⟩] [none, some 2, none, none, none])
 (.ret))))))))⟩

end Go.Cat

namespace Go.Cat
/-- loop.example/g03401/impl.within -/
def ir_impl_within : IF := ⟨[], 3, 4, [3],
 (.seq (.reg [⟨[], [], .cs .v (.b false)⟩] [some 0, some 1, some 2, none])
 ((.seq (.reg [⟨[], [], .nop⟩, ⟨[], [], .nop⟩, ⟨[], [], .bi .geq (.e 0) (.e 1)⟩, ⟨[], [], .nop⟩, ⟨[], [(4, true)], .cy (.e 0)⟩, ⟨[], [(4, true)], .cy (.e 2)⟩, ⟨[], [(4, true)], .bi .leq (.e 5) (.e 6)⟩, ⟨[], [], .pk (.e 4) (.e 7) (.c (.b false))⟩, ⟨[], [], .nop⟩] [none, none, none, some 8])
 (.ret))))⟩

end Go.Cat

namespace Go.Cat
/-- loop.example/g03401/impl.copyInts -/
def ir_impl_copyInts : IF := ⟨[], 1, 2, [1],
 (.seq (.reg [⟨[], [], .cs (.o .v) (.l [])⟩] [some 0, none])
 ((.seq (.reg [⟨[], [], .li (.o .v) []⟩, ⟨[], [], .nop⟩, ⟨[], [], .ap true (.e 2) (.e 0)⟩, ⟨[], [], .nop⟩] [none, some 3])
 (.ret))))⟩

end Go.Cat

namespace Go.Cat
/-- loop.example/g03401/impl.allPaths -/
def ir_impl_allPaths : IF := ⟨[], 1, 4, [1],
 (.seq (.reg [⟨[], [], .cs (.o .v) (.l [])⟩] [some 0, none, none, none])
 ((.seq (.reg [⟨[], [], .li (.o .v) []⟩, ⟨[], [], .cs (.b (.o .v)) (.g [(.l [])])⟩, ⟨[], [], .up 5 [.k 0] (.e 4)⟩] [some 0, none, some 6, none])
 ((.seq (.reg [⟨[], [], .cs (.b .v) (.g [.u])⟩] [some 0, none, some 2, some 4])
 ((.seq (.reg [⟨[], [], .nop⟩, ⟨[], [], .cb 3⟩, ⟨[], [], .nop⟩, ⟨[], [], .nop⟩, ⟨[], [], .nop⟩, ⟨[], [], .ca 326 [(.c (.s [])), (.e 0), (.e 0), (.e 2), (.e 4)] 1⟩] [none, none, some 5, none])
 ((.seq (.reg [⟨[], [], .tk 2⟩, ⟨[], [], .nop⟩] [none, some 4, none, none])
 (.ret))))))))))⟩

/-- loop.example/g03401/impl.allPaths$1 -/
def ir_impl_allPaths_f1 : IF := ⟨[], 5, 8, [3],
 (.seq ((.seq (.reg [⟨[], [], .nop⟩, ⟨[], [], .bi .eql (.e 1) (.c (.n 0))⟩, ⟨[], [], .nop⟩, ⟨[], [(8, true)], .cy (.e 2)⟩, ⟨[], [(8, true)], .bi .eql (.e 9) (.c (.n 0))⟩, ⟨[], [], .pk (.e 8) (.e 10) (.c (.b false))⟩] [some 0, some 1, some 2, some 3, some 4, some 11, none, none])
 (.cond 5 ((.seq (.reg [⟨[], [], .tk 3⟩, ⟨[], [], .nop⟩, ⟨[], [], .li (.o .v) [(.e 0)]⟩, ⟨[], [], .ap false (.e 8) (.e 10)⟩, ⟨[], [], .up 9 [.k 0] (.e 11)⟩] [none, none, none, some 12, none, none, none, none])
  (.ret))) (.skip))))
 ((.seq ((.seq (.reg [⟨[], [], .nop⟩, ⟨[], [], .bi .gtr (.e 1) (.c (.n 0))⟩] [some 0, some 1, some 2, some 3, some 4, none, some 8, none])
 (.cond 6 (.reg [⟨[], [], .nop⟩, ⟨[], [], .nop⟩, ⟨[], [], .bi .add (.e 0) (.c (.s [117]))⟩, ⟨[], [], .nop⟩, ⟨[], [], .bi .sub (.e 1) (.c (.n 1))⟩, ⟨[], [], .nop⟩, ⟨[], [], .ca 326 [(.e 8), (.e 9), (.e 2), (.e 3), (.e 4)] 1⟩] [some 0, some 1, some 2, some 10, some 4, none, none, none]) (.skip))))
 ((.seq (.reg [⟨[], [], .nop⟩, ⟨[], [], .nop⟩, ⟨[], [], .bi .gtr (.e 2) (.e 1)⟩] [some 0, some 1, some 2, some 3, some 4, none, none, some 8])
 (.cond 7 (.reg [⟨[], [], .nop⟩, ⟨[], [], .nop⟩, ⟨[], [], .bi .add (.e 0) (.c (.s [100]))⟩, ⟨[], [], .nop⟩, ⟨[], [], .nop⟩, ⟨[], [], .bi .sub (.e 2) (.c (.n 1))⟩, ⟨[], [], .ca 326 [(.e 8), (.e 1), (.e 9), (.e 3), (.e 4)] 1⟩] [none, none, none, some 10, none, none, none, none]) (.skip)))))))⟩

end Go.Cat

namespace Go.Cat
/-- loop.example/g03401/impl.partners -/
def ir_impl_partners : IF := ⟨[], 1, 8, [1],
 (.seq (.reg [⟨[], [], .cs (.o .v) (.l [])⟩] [some 0, none, none, none, none, none, none, none])
 ((.seq (.reg [⟨[], [], .nop⟩, ⟨[], [], .sn (.e 0)⟩, ⟨[], [], .mk (.n 0) (.e 8) (.e 8)⟩, ⟨[], [], .nop⟩] [some 0, none, some 9, none, none, none, none, none])
 ((.seq (.reg [⟨[], [], .li (.o .v) []⟩, ⟨[], [], .nop⟩] [some 0, none, some 2, some 8, none, none, none, none])
 ((.seq ((.seq (.reg [⟨[], [], .cs .v (.n 0)⟩] [some 0, none, some 2, some 3, some 8, none, none, none])
 (.block 0 (.loop ((.seq ((.seq (.reg [⟨[], [], .nop⟩, ⟨[], [], .nop⟩, ⟨[], [], .sn (.e 0)⟩, ⟨[], [], .bi .lss (.e 4) (.e 8)⟩] [some 0, none, some 2, some 3, some 4, none, some 9, none])
   (.cond 6 (.skip) (.exit 0))))
   ((.seq (.block 1 ((.seq ((.seq (.reg [⟨[], [], .nop⟩, ⟨[], [], .nop⟩, ⟨[], [], .sx (.e 0) (.e 4)⟩, ⟨[], [], .bi .eql (.e 8) (.c (.y 117))⟩] [some 0, none, some 2, some 3, some 4, none, none, some 9])
    (.cond 7 ((.seq (.reg [⟨[], [], .nop⟩, ⟨[], [], .nop⟩, ⟨[], [], .li (.o .v) [(.e 4)]⟩, ⟨[], [], .ap false (.e 3) (.e 8)⟩, ⟨[], [], .nop⟩] [some 0, none, some 2, some 9, some 4, none, none, none])
     (.exit 1))) (.skip))))
    ((.seq (.reg [⟨[], [], .nop⟩, ⟨[], [], .nop⟩, ⟨[], [], .ln (.e 3) []⟩, ⟨[], [], .bi .sub (.e 8) (.c (.n 1))⟩, ⟨[], [], .ix (.e 3) [] (.e 9)⟩, ⟨[], [], .nop⟩, ⟨[], [], .nop⟩] [some 0, none, some 2, some 3, some 4, some 10, none, none])
    ((.seq (.reg [⟨[], [], .nop⟩, ⟨[], [], .nop⟩, ⟨[], [], .ln (.e 3) []⟩, ⟨[], [], .bi .sub (.e 8) (.c (.n 1))⟩, ⟨[], [], .sb true (.e 3) none (some (.e 9))⟩, ⟨[], [], .nop⟩] [some 0, none, some 2, some 10, some 4, some 5, none, none])
    ((.seq (.reg [⟨[], [], .nop⟩, ⟨[], [], .nop⟩, ⟨[], [], .nop⟩, ⟨[], [], .ix (.e 2) [] (.e 4)⟩, ⟨[], [], .up 2 [.e 4] (.e 5)⟩] [some 0, none, some 9, some 3, some 4, some 5, none, none])
    (.reg [⟨[], [], .nop⟩, ⟨[], [], .nop⟩, ⟨[], [], .nop⟩, ⟨[], [], .ix (.e 2) [] (.e 5)⟩, ⟨[], [], .up 2 [.e 5] (.e 4)⟩] [some 0, none, some 9, some 3, some 4, none, none, none]))))))))))
   (.reg [⟨[], [], .nop⟩, ⟨[], [], .bi .add (.e 4) (.c (.n 1))⟩, ⟨[], [], .nop⟩] [some 0, none, some 2, some 3, some 8, none, none, none])))))))))
 ((.seq (.reg [⟨[], [], .nop⟩, ⟨[], [], .nop⟩] [none, some 2, none, none, none, none, none, none])
 (.ret))))))))))⟩

end Go.Cat

namespace Go.Cat
/-- loop.example/g03401/impl.CrossingsOf -/
def ir_impl_CrossingsOf : IF := ⟨[], 1, 4, [1],
 (.seq (.reg [⟨[], [], .cs .v (.n 0)⟩] [some 0, none, none, none])
 ((.seq ((.seq (.reg [⟨[], [], .nop⟩, ⟨[], [], .ca 380 [(.e 0)] 1⟩, ⟨[], [], .un .not (.e 4)⟩] [some 0, none, none, some 5])
 (.cond 3 ((.seq (.reg [⟨[], [], .cs .v (.n (-1))⟩] [none, some 4, none, none])
  (.ret))) (.skip))))
 ((.seq (.reg [⟨[], [], .nop⟩, ⟨[], [], .ca 381 [(.e 0)] 2⟩, ⟨[], [], .nop⟩, ⟨[], [], .nop⟩, ⟨[], [], .nop⟩, ⟨[], [], .nop⟩, ⟨[], [], .nop⟩] [none, none, some 4, none])
 ((.seq (.reg [⟨[], [], .nop⟩, ⟨[], [], .nop⟩] [none, some 2, none, none])
 (.ret))))))))⟩

/-- loop.example/g03401/impl.IsMatching -/
def ir_impl_IsMatching : IF := ⟨[], 1, 10, [1],
 (.seq (.reg [⟨[], [], .cs .v (.b false)⟩] [some 0, none, none, none, none, none, none, none, none, none])
 ((.seq ((.seq (.reg [⟨[], [], .nop⟩, ⟨[], [], .ln (.e 0) []⟩, ⟨[], [], .bi .gtr (.e 10) (.c (.n 16))⟩] [some 0, none, none, none, some 11, none, none, none, none, none])
 (.cond 4 ((.seq (.reg [⟨[], [], .cs .v (.b false)⟩] [none, some 10, none, none, none, none, none, none, none, none])
  (.ret))) (.skip))))
 ((.seq ((.seq (.reg [⟨[], [], .nop⟩, ⟨[], [], .ln (.e 0) []⟩, ⟨[], [], .cs .v (.n 0)⟩] [some 0, none, none, none, none, some 0, some 10, some 11, none, none])
 (.block 0 (.loop ((.seq (.reg [⟨[], [], .bi .lss (.e 7) (.e 6)⟩] [some 0, none, none, none, none, some 5, some 6, some 7, some 10, none])
   ((.seq (.cond 8 (.skip) (.exit 0))
   ((.seq (.block 1 ((.seq (.reg [⟨[], [], .nop⟩, ⟨[], [], .iy (.e 5) (.e 7)⟩, ⟨[], [], .nop⟩, ⟨[], [], .nop⟩, ⟨[], [], .nop⟩] [some 0, none, some 7, some 10, none, some 5, some 6, some 7, none, none])
    ((.seq (.reg [⟨[], [], .nop⟩, ⟨[], [], .nop⟩, ⟨[], [], .ln (.e 0) []⟩, ⟨[], [], .bi .sub (.e 10) (.c (.n 1))⟩, ⟨[], [], .ca 23 [(.e 3), (.c (.n 0)), (.e 11)] 1⟩, ⟨[], [], .un .not (.e 12)⟩, ⟨[], [], .nop⟩, ⟨[], [(13, false)], .cy (.e 3)⟩, ⟨[], [(13, false)], .cy (.e 2)⟩, ⟨[], [(13, false)], .bi .eql (.e 14) (.e 15)⟩, ⟨[], [], .pk (.e 13) (.c (.b true)) (.e 16)⟩, ⟨[], [], .nop⟩, ⟨[], [(17, false)], .nop⟩, ⟨[], [(17, false)], .cy (.e 3)⟩, ⟨[], [(17, false)], .iy (.e 0) (.e 18)⟩, ⟨[], [(17, false)], .nop⟩, ⟨[], [(17, false)], .cy (.e 2)⟩, ⟨[], [(17, false)], .bi .neq (.e 19) (.e 20)⟩, ⟨[], [], .pk (.e 17) (.c (.b true)) (.e 21)⟩] [some 0, none, none, none, none, some 5, some 6, some 7, none, some 22])
    (.cond 9 ((.seq (.reg [⟨[], [], .cs .v (.b false)⟩] [none, some 10, none, none, none, none, none, none, none, none])
     (.ret))) (.skip)))))))
   (.reg [⟨[], [], .bi .add (.e 7) (.c (.n 1))⟩, ⟨[], [], .nop⟩] [some 0, none, none, none, none, some 5, some 6, some 10, none, none])))))))))))
 ((.seq (.reg [⟨[], [], .cs .v (.b true)⟩] [none, some 10, none, none, none, none, none, none, none, none])
 (.ret))))))))⟩

/-- loop.example/g03401/impl.IsNoncrossingMatching -/
def ir_impl_IsNoncrossingMatching : IF := ⟨[], 1, 2, [1],
 (.seq (.reg [⟨[], [], .cs .v (.b false)⟩] [some 0, none])
 ((.seq (.reg [⟨[], [], .nop⟩, ⟨[], [], .ca 372 [(.e 0)] 1⟩, ⟨[], [], .bi .eql (.e 2) (.c (.n 0))⟩, ⟨[], [], .nop⟩] [none, some 3])
 (.ret))))⟩

/-- loop.example/g03401/impl.arcs -/
def ir_impl_arcs : IF := ⟨[], 1, 19, [1, 2],
 (.seq (.reg [⟨[], [], .cs .v (.n 0)⟩, ⟨[], [], .cs .v (.n 0)⟩] [some 0, none, none, none, none, none, none, none, none, none, none, none, none, none, none, none, none, none, none])
 ((.seq (.reg [⟨[], [], .cs .v (.n 0)⟩, ⟨[], [], .cs .v (.n 0)⟩] [some 0, none, none, some 19, some 20, none, none, none, none, none, none, none, none, none, none, none, none, none, none])
 ((.seq ((.seq (.reg [⟨[], [], .nop⟩, ⟨[], [], .ln (.e 0) []⟩, ⟨[], [], .cs .v (.n 0)⟩] [some 0, none, none, some 3, some 4, none, none, none, none, some 0, some 19, some 20, none, none, none, none, none, none, none])
 (.block 0 (.loop ((.seq (.reg [⟨[], [], .bi .lss (.e 11) (.e 10)⟩] [some 0, none, none, some 3, some 4, none, none, none, none, some 9, some 10, some 11, some 19, none, none, none, none, none, none])
   ((.seq (.cond 12 (.skip) (.exit 0))
   ((.seq (.block 1 ((.seq (.reg [⟨[], [], .nop⟩, ⟨[], [], .iy (.e 9) (.e 11)⟩, ⟨[], [], .nop⟩, ⟨[], [], .nop⟩, ⟨[], [], .nop⟩] [some 0, none, none, some 3, some 4, some 11, some 19, none, none, some 9, some 10, some 11, none, none, none, none, none, none, none])
    ((.seq (.reg [⟨[], [], .nop⟩, ⟨[], [], .ln (.e 0) []⟩, ⟨[], [], .cs .v (.n 0)⟩] [some 0, none, none, some 3, some 4, some 5, some 6, none, none, some 9, some 10, some 11, none, some 0, some 19, some 20, none, none, none])
    (.block 2 (.loop ((.seq (.reg [⟨[], [], .bi .lss (.e 15) (.e 14)⟩] [some 0, none, none, some 3, some 4, some 5, some 6, none, none, some 9, some 10, some 11, none, some 13, some 14, some 15, some 19, none, none])
      ((.seq (.cond 16 (.skip) (.exit 2))
      ((.seq (.block 3 ((.seq (.reg [⟨[], [], .nop⟩, ⟨[], [], .iy (.e 13) (.e 15)⟩, ⟨[], [], .nop⟩, ⟨[], [], .nop⟩, ⟨[], [], .nop⟩] [some 0, none, none, some 3, some 4, some 5, some 6, some 15, some 19, some 9, some 10, some 11, none, some 13, some 14, some 15, none, none, none])
       ((.seq (.reg [⟨[], [], .nop⟩, ⟨[], [], .nop⟩, ⟨[], [], .bi .lss (.e 5) (.e 6)⟩, ⟨[], [], .nop⟩, ⟨[], [(19, true)], .cy (.e 7)⟩, ⟨[], [(19, true)], .cy (.e 8)⟩, ⟨[], [(19, true)], .bi .lss (.e 20) (.e 21)⟩, ⟨[], [], .pk (.e 19) (.e 22) (.c (.b false))⟩, ⟨[], [], .nop⟩, ⟨[], [(23, true)], .cy (.e 5)⟩, ⟨[], [(23, true)], .cy (.e 7)⟩, ⟨[], [(23, true)], .bi .lss (.e 24) (.e 25)⟩, ⟨[], [], .pk (.e 23) (.e 26) (.c (.b false))⟩, ⟨[], [], .nop⟩, ⟨[], [(27, true)], .cy (.e 7)⟩, ⟨[], [(27, true)], .cy (.e 6)⟩, ⟨[], [(27, true)], .bi .lss (.e 28) (.e 29)⟩, ⟨[], [], .pk (.e 27) (.e 30) (.c (.b false))⟩] [some 0, none, none, some 3, some 4, some 5, some 6, none, some 8, some 9, some 10, some 11, none, some 13, some 14, some 15, none, some 31, none])
       (.cond 17 ((.seq (.reg [⟨[], [], .nop⟩, ⟨[], [], .nop⟩, ⟨[], [], .bi .gtr (.e 8) (.e 6)⟩] [some 0, none, none, some 3, some 4, some 5, some 6, none, none, some 9, some 10, some 11, none, some 13, some 14, some 15, none, none, some 19])
        (.cond 18 (.reg [⟨[], [], .nop⟩, ⟨[], [], .bi .add (.e 3) (.c (.n 1))⟩, ⟨[], [], .nop⟩] [some 0, none, none, some 19, some 4, some 5, some 6, none, none, some 9, some 10, some 11, none, some 13, some 14, some 15, none, none, none]) (.reg [⟨[], [], .nop⟩, ⟨[], [], .bi .add (.e 4) (.c (.n 1))⟩, ⟨[], [], .nop⟩] [some 0, none, none, some 3, some 19, some 5, some 6, none, none, some 9, some 10, some 11, none, some 13, some 14, some 15, none, none, none])))) (.skip)))))))
      (.reg [⟨[], [], .bi .add (.e 15) (.c (.n 1))⟩, ⟨[], [], .nop⟩] [some 0, none, none, some 3, some 4, some 5, some 6, none, none, some 9, some 10, some 11, none, some 13, some 14, some 19, none, none, none]))))))))))))))
   (.reg [⟨[], [], .bi .add (.e 11) (.c (.n 1))⟩, ⟨[], [], .nop⟩] [some 0, none, none, some 3, some 4, none, none, none, none, some 9, some 10, some 19, none, none, none, none, none, none, none])))))))))))
 ((.seq (.reg [⟨[], [], .nop⟩, ⟨[], [], .nop⟩, ⟨[], [], .nop⟩, ⟨[], [], .nop⟩] [none, some 3, some 4, none, none, none, none, none, none, none, none, none, none, none, none, none, none, none, none])
 (.ret))))))))⟩

end Go.Cat

namespace Go.Cat
/-- loop.example/g03401/impl.cycles -/
def ir_impl_cycles : IF := ⟨[], 2, 12, [2],
 (.seq (.reg [⟨[], [], .cs .v (.n 0)⟩] [some 0, some 1, none, none, none, none, none, none, none, none, none, none])
 ((.seq (.reg [⟨[], [], .nop⟩, ⟨[], [], .ln (.e 0) []⟩, ⟨[], [], .mk (.b false) (.e 12) (.e 12)⟩, ⟨[], [], .nop⟩] [some 0, some 1, none, some 13, none, none, none, none, none, none, none, none])
 ((.seq (.reg [⟨[], [], .cs .v (.n 0)⟩] [some 0, some 1, none, some 3, some 12, none, none, none, none, none, none, none])
 ((.seq ((.seq (.reg [⟨[], [], .nop⟩, ⟨[], [], .ln (.e 0) []⟩, ⟨[], [], .cs .v (.n 0)⟩] [some 0, some 1, none, some 3, some 4, none, none, some 12, some 13, none, none, none])
 (.block 0 (.loop ((.seq (.reg [⟨[], [], .bi .lss (.e 8) (.e 7)⟩] [some 0, some 1, none, some 3, some 4, none, none, some 7, some 8, some 12, none, none])
   ((.seq (.cond 9 (.skip) (.exit 0))
   ((.seq (.block 1 ((.seq (.reg [⟨[], [], .nop⟩, ⟨[], [], .nop⟩] [some 0, some 1, none, some 3, some 4, some 8, none, some 7, some 8, none, none, none])
    ((.seq ((.seq (.reg [⟨[], [], .nop⟩, ⟨[], [], .nop⟩, ⟨[], [], .ix (.e 3) [] (.e 5)⟩, ⟨[], [], .nop⟩] [some 0, some 1, none, some 3, some 4, some 5, none, some 7, some 8, none, some 12, none])
    (.cond 10 (.exit 1) (.skip))))
    ((.seq (.reg [⟨[], [], .nop⟩, ⟨[], [], .bi .add (.e 4) (.c (.n 1))⟩, ⟨[], [], .nop⟩] [some 0, some 1, none, some 3, some 12, some 5, none, some 7, some 8, none, none, none])
    ((.seq (.reg [⟨[], [], .nop⟩, ⟨[], [], .nop⟩] [some 0, some 1, none, some 3, some 4, none, some 5, some 7, some 8, none, none, none])
    (.block 2 (.loop ((.seq ((.seq (.reg [⟨[], [], .nop⟩, ⟨[], [], .nop⟩, ⟨[], [], .ix (.e 3) [] (.e 6)⟩, ⟨[], [], .nop⟩, ⟨[], [], .un .not (.e 12)⟩] [some 0, some 1, none, some 3, some 4, none, some 6, some 7, some 8, none, none, some 13])
      (.cond 11 (.skip) (.exit 2))))
      ((.seq (.block 3 ((.seq (.reg [⟨[], [], .nop⟩, ⟨[], [], .nop⟩, ⟨[], [], .ix (.e 3) [] (.e 6)⟩, ⟨[], [], .up 3 [.e 6] (.c (.b true))⟩] [some 0, some 1, none, some 13, some 4, none, some 6, some 7, some 8, none, none, none])
       (.reg [⟨[], [], .nop⟩, ⟨[], [], .nop⟩, ⟨[], [], .nop⟩, ⟨[], [], .iy (.e 0) (.e 6)⟩, ⟨[], [], .nop⟩, ⟨[], [], .ix (.e 3) [] (.e 12)⟩, ⟨[], [], .up 3 [.e 12] (.c (.b true))⟩] [some 0, some 1, none, some 14, some 4, none, some 6, some 7, some 8, none, none, none]))))
      (.reg [⟨[], [], .nop⟩, ⟨[], [], .nop⟩, ⟨[], [], .nop⟩, ⟨[], [], .iy (.e 0) (.e 6)⟩, ⟨[], [], .nop⟩, ⟨[], [], .iy (.e 1) (.e 12)⟩, ⟨[], [], .nop⟩, ⟨[], [], .nop⟩] [some 0, some 1, none, some 3, some 4, none, some 13, some 7, some 8, none, none, none]))))))))))))))))
   (.reg [⟨[], [], .bi .add (.e 8) (.c (.n 1))⟩, ⟨[], [], .nop⟩] [some 0, some 1, none, some 3, some 4, none, none, some 7, some 12, none, none, none])))))))))))
 ((.seq (.reg [⟨[], [], .nop⟩, ⟨[], [], .nop⟩] [none, none, some 4, none, none, none, none, none, none, none, none, none])
 (.ret))))))))))⟩

end Go.Cat

namespace Go.Cat
/-- loop.example/g03401/impl.MeanderPartner -/
def ir_impl_MeanderPartner : IF := ⟨[], 1, 10, [1, 2],
 (.seq (.reg [⟨[], [], .cs (.o .v) (.l [])⟩, ⟨[], [], .cs .v (.b false)⟩] [some 0, none, none, none, none, none, none, none, none, none])
 ((.seq ((.seq (.reg [⟨[], [], .nop⟩, ⟨[], [], .ca 358 [(.e 0)] 1⟩, ⟨[], [], .un .not (.e 10)⟩, ⟨[], [], .nop⟩, ⟨[], [(11, false)], .nop⟩, ⟨[], [(11, false)], .ln (.e 0) []⟩, ⟨[], [(11, false)], .ca 23 [(.e 12), (.c (.n 2)), (.c (.n 12))] 1⟩, ⟨[], [(11, false)], .un .not (.e 13)⟩, ⟨[], [], .pk (.e 11) (.c (.b true)) (.e 14)⟩] [some 0, none, none, none, some 15, none, none, none, none, none])
 (.cond 4 ((.seq (.reg [⟨[], [], .li (.o .v) []⟩, ⟨[], [], .nop⟩, ⟨[], [], .cs .v (.b false)⟩] [none, some 10, some 11, none, none, none, none, none, none, none])
  (.ret))) (.skip))))
 ((.seq ((.seq (.reg [⟨[], [], .nop⟩, ⟨[], [], .ln (.e 0) []⟩, ⟨[], [], .bi .quo (.e 10) (.c (.n 2))⟩, ⟨[], [], .ca 359 [(.e 11)] 1⟩, ⟨[], [], .ln (.e 12) []⟩, ⟨[], [], .cs .v (.n 0)⟩] [some 0, none, none, none, none, some 12, some 13, some 14, none, none])
 (.block 0 (.loop ((.seq (.reg [⟨[], [], .bi .lss (.e 7) (.e 6)⟩] [some 0, none, none, none, none, some 5, some 6, some 7, some 10, none])
   ((.seq (.cond 8 (.skip) (.exit 0))
   ((.seq (.block 1 ((.seq (.reg [⟨[], [], .ix (.e 5) [] (.e 7)⟩, ⟨[], [], .nop⟩, ⟨[], [], .sp 5 [.e 7] 1⟩, ⟨[], [], .nop⟩] [some 0, none, none, some 11, none, some 12, some 6, some 7, none, none])
    ((.seq (.reg [⟨[], [], .nop⟩, ⟨[], [], .nop⟩, ⟨[], [], .ca 360 [(.e 0), (.e 3)] 1⟩, ⟨[], [], .bi .eql (.e 10) (.c (.n 1))⟩] [some 0, none, none, some 3, none, some 5, some 6, some 7, none, some 11])
    (.cond 9 ((.seq (.reg [⟨[], [], .nop⟩, ⟨[], [], .nop⟩, ⟨[], [], .cs .v (.b true)⟩] [none, some 3, some 10, none, none, none, none, none, none, none])
     (.ret))) (.skip)))))))
   (.reg [⟨[], [], .bi .add (.e 7) (.c (.n 1))⟩, ⟨[], [], .nop⟩] [some 0, none, none, none, none, some 5, some 6, some 10, none, none])))))))))))
 ((.seq (.reg [⟨[], [], .li (.o .v) []⟩, ⟨[], [], .nop⟩, ⟨[], [], .cs .v (.b false)⟩] [none, some 10, some 11, none, none, none, none, none, none, none])
 (.ret))))))))⟩

/-- loop.example/g03401/impl.matchings -/
def ir_impl_matchings : IF := ⟨[], 1, 8, [1],
 (.seq (.reg [⟨[], [], .cs (.o (.o .v)) (.l [])⟩] [some 0, none, none, none, none, none, none, none])
 ((.seq (.reg [⟨[], [], .li (.o (.o .v)) []⟩, ⟨[], [], .nop⟩] [some 0, none, some 8, none, none, none, none, none])
 ((.seq ((.seq (.reg [⟨[], [], .nop⟩, ⟨[], [], .ca 314 [(.e 0)] 1⟩, ⟨[], [], .ln (.e 8) []⟩, ⟨[], [], .cs .v (.n 0)⟩] [none, none, some 2, none, some 8, some 9, some 10, none])
 (.block 0 (.loop ((.seq (.reg [⟨[], [], .bi .lss (.e 6) (.e 5)⟩] [none, none, some 2, none, some 4, some 5, some 6, some 8])
   ((.seq (.cond 7 (.skip) (.exit 0))
   ((.seq (.block 1 ((.seq (.reg [⟨[], [], .ix (.e 4) [] (.e 6)⟩, ⟨[], [], .nop⟩, ⟨[], [], .nop⟩] [none, none, some 2, some 8, some 4, some 5, some 6, none])
    (.reg [⟨[], [], .nop⟩, ⟨[], [], .nop⟩, ⟨[], [], .ca 373 [(.e 3)] 1⟩, ⟨[], [], .li (.o (.o .v)) [(.e 8)]⟩, ⟨[], [], .ap false (.e 2) (.e 9)⟩, ⟨[], [], .nop⟩] [none, none, some 10, none, some 4, some 5, some 6, none]))))
   (.reg [⟨[], [], .bi .add (.e 6) (.c (.n 1))⟩, ⟨[], [], .nop⟩] [none, none, some 2, none, some 4, some 5, some 8, none])))))))))))
 ((.seq (.reg [⟨[], [], .nop⟩, ⟨[], [], .nop⟩] [none, some 2, none, none, none, none, none, none])
 (.ret))))))))⟩

end Go.Cat

namespace Go.Cat
/-- loop.example/g03401/impl.ClaimOfMeander -/
def ir_impl_ClaimOfMeander : IF := ⟨[(0, 7)], 1, 6, [1, 2],
 (.seq (.reg [⟨[], [], .cs (.b (.o (.o (.o .v)))) (.g [(.n 0), (.s []), (.s []), (.l []), (.l []), (.l []), (.l [])])⟩, ⟨[], [], .cs .v (.b false)⟩] [some 0, some 6, none, none, none, none])
 ((.seq (.reg [⟨[], [], .nop⟩, ⟨[], [], .ca 344 [(.e 0)] 2⟩, ⟨[], [], .nop⟩, ⟨[], [], .nop⟩, ⟨[], [], .nop⟩, ⟨[], [], .nop⟩, ⟨[], [], .nop⟩] [some 0, some 1, none, some 6, some 7, none])
 ((.seq ((.seq (.reg [⟨[], [], .nop⟩, ⟨[], [], .un .not (.e 4)⟩] [some 0, some 1, none, some 3, none, some 6])
 (.cond 5 ((.seq (.reg [⟨[], [], .bg 3 [((.c (.n 0)), 0), ((.c (.s [])), 0), ((.c (.s [])), 0), ((.c (.l [])), 1), ((.c (.l [])), 1), ((.c (.l [])), 1), ((.c (.l [])), 1)]⟩, ⟨[], [], .ws 1 7 (.e 6)⟩, ⟨[], [], .cs .v (.b false)⟩] [none, some 7, some 8, none, none, none])
  (.ret))) (.skip))))
 ((.seq (.reg [⟨[], [], .nop⟩, ⟨[], [], .ca 75 [(.e 0)] 1⟩, ⟨[], [], .nop⟩, ⟨[], [], .bg 3 [((.c (.n 6)), 0), ((.c (.s [])), 0), ((.c (.s [])), 0), ((.c (.l [])), 1), ((.e 6), 1), ((.e 3), 1), ((.c (.l [])), 1)]⟩, ⟨[], [], .ws 1 7 (.e 7)⟩, ⟨[], [], .cs .v (.b true)⟩] [none, some 8, some 9, none, none, none])
 (.ret))))))))⟩

end Go.Cat

namespace Go.Cat
/-- loop.example/g03401/laws.FnExactClaimOfMeander -/
def ir_laws_FnExactClaimOfMeander : IF := ⟨[], 1, 21, [1],
 (.seq (.reg [⟨[], [], .cs .v (.b false)⟩] [some 0, none, none, none, none, none, none, none, none, none, none, none, none, none, none, none, none, none, none, none, none])
 ((.seq ((.seq (.reg [⟨[], [], .nop⟩, ⟨[], [], .ln (.e 0) []⟩, ⟨[], [], .bi .gtr (.e 21) (.c (.n 1048576))⟩] [some 0, none, none, none, none, none, none, none, none, none, none, none, some 22, none, none, none, none, none, none, none, none])
 (.cond 12 ((.seq (.reg [⟨[], [], .cs .v (.b true)⟩] [none, some 21, none, none, none, none, none, none, none, none, none, none, none, none, none, none, none, none, none, none, none])
  (.ret))) (.skip))))
 ((.seq (.reg [⟨[], [], .nop⟩, ⟨[], [], .ca 42 [(.e 0)] 1⟩, ⟨[], [], .ca 333 [(.e 21)] 2⟩, ⟨[], [], .nop⟩, ⟨[], [], .nop⟩, ⟨[], [], .nop⟩, ⟨[], [], .cs (.b (.o (.o (.o .v)))) (.g [(.n 0), (.s []), (.s []), (.l []), (.l []), (.l []), (.l [])])⟩, ⟨[], [], .ws 24 7 (.e 22)⟩, ⟨[], [], .nop⟩] [some 0, none, some 25, some 23, none, none, none, none, none, none, none, none, none, none, none, none, none, none, none, none, none])
 ((.seq (.reg [⟨[], [], .nop⟩, ⟨[], [], .ca 42 [(.e 0)] 1⟩, ⟨[], [], .nop⟩] [some 0, none, some 2, some 3, some 21, none, none, none, none, none, none, none, none, none, none, none, none, none, none, none, none])
 ((.seq (.reg [⟨[], [], .nop⟩, ⟨[], [], .ca 334 [(.e 4)] 2⟩, ⟨[], [], .nop⟩, ⟨[], [], .nop⟩, ⟨[], [], .nop⟩, ⟨[], [], .cs (.b (.o (.o (.o .v)))) (.g [(.n 0), (.s []), (.s []), (.l []), (.l []), (.l []), (.l [])])⟩, ⟨[], [], .ws 23 7 (.e 21)⟩, ⟨[], [], .nop⟩] [some 0, none, some 2, some 3, some 4, some 24, some 22, none, none, none, none, none, none, none, none, none, none, none, none, none, none])
 ((.seq ((.seq (.reg [⟨[], [], .wl 7 (.e 5)⟩, ⟨[], [], .wl 7 (.e 2)⟩, ⟨[], [], .ca 119 [(.e 21), (.e 22)] 1⟩, ⟨[], [], .un .not (.e 23)⟩, ⟨[], [], .nop⟩, ⟨[], [(24, false)], .cy (.e 6)⟩, ⟨[], [(24, false)], .cy (.e 3)⟩, ⟨[], [(24, false)], .bb .neq (.e 25) (.e 26)⟩, ⟨[], [], .pk (.e 24) (.c (.b true)) (.e 27)⟩] [some 0, none, some 2, some 3, some 4, some 5, some 6, none, none, none, none, none, none, some 28, none, none, none, none, none, none, none])
 (.cond 13 ((.seq (.reg [⟨[], [], .cs .v (.b false)⟩] [none, some 21, none, none, none, none, none, none, none, none, none, none, none, none, none, none, none, none, none, none, none])
  (.ret))) (.skip))))
 ((.seq ((.seq (.reg [⟨[], [], .nop⟩, ⟨[], [], .nop⟩, ⟨[], [], .ca 42 [(.e 0)] 1⟩, ⟨[], [], .ca 44 [(.e 4), (.e 21)] 1⟩, ⟨[], [], .un .not (.e 22)⟩] [some 0, none, some 2, some 3, some 4, some 5, some 6, none, none, none, none, none, none, none, some 23, none, none, none, none, none, none])
 (.cond 14 ((.seq (.reg [⟨[], [], .cs .v (.b false)⟩] [none, some 21, none, none, none, none, none, none, none, none, none, none, none, none, none, none, none, none, none, none, none])
  (.ret))) (.skip))))
 ((.seq (.reg [⟨[], [], .cs .v (.n 1)⟩] [some 0, none, some 2, some 3, some 4, some 5, some 6, some 21, none, none, none, none, none, none, none, none, none, none, none, none, none])
 ((.seq (.reg [⟨[], [], .nop⟩, ⟨[], [], .nop⟩, ⟨[], [], .ca 45 [(.e 4), (.e 7)] 2⟩, ⟨[], [], .nop⟩] [some 0, none, some 2, some 3, none, some 5, some 6, some 21, none, none, none, none, none, none, none, none, none, none, none, none, none])
 ((.seq ((.seq (.reg [⟨[], [], .nop⟩, ⟨[], [], .bi .lss (.e 7) (.c (.n 0))⟩, ⟨[], [], .nop⟩, ⟨[], [(21, false)], .wl 7 (.e 5)⟩, ⟨[], [(21, false)], .wl 7 (.e 2)⟩, ⟨[], [(21, false)], .ca 119 [(.e 22), (.e 23)] 1⟩, ⟨[], [(21, false)], .un .not (.e 24)⟩, ⟨[], [], .pk (.e 21) (.c (.b true)) (.e 25)⟩, ⟨[], [], .nop⟩, ⟨[], [(26, false)], .cy (.e 6)⟩, ⟨[], [(26, false)], .cy (.e 3)⟩, ⟨[], [(26, false)], .bb .neq (.e 27) (.e 28)⟩, ⟨[], [], .pk (.e 26) (.c (.b true)) (.e 29)⟩] [some 0, none, some 2, some 3, none, some 5, none, none, none, none, none, none, none, none, none, some 30, none, none, none, none, none])
 (.cond 15 ((.seq (.reg [⟨[], [], .cs .v (.b false)⟩] [none, some 21, none, none, none, none, none, none, none, none, none, none, none, none, none, none, none, none, none, none, none])
  (.ret))) (.skip))))
 ((.seq (.reg [⟨[], [], .cs .v (.n 1)⟩] [some 0, none, some 2, some 3, none, some 5, none, none, some 21, none, none, none, none, none, none, none, none, none, none, none, none])
 ((.seq (.reg [⟨[], [], .wl 7 (.e 5)⟩, ⟨[], [], .nop⟩, ⟨[], [], .sw 5⟩, ⟨[], [], .ca 122 [(.e 22), (.e 8)] 2⟩, ⟨[], [], .cy (.e 25)⟩, ⟨[], [], .nop⟩] [some 0, none, some 2, some 3, none, some 26, none, none, some 24, none, none, none, none, none, none, none, none, none, none, none, none])
 ((.seq (.reg [⟨[], [], .cs .v (.n 1)⟩] [some 0, none, some 2, some 3, none, some 5, none, none, some 8, some 21, none, none, none, none, none, none, none, none, none, none, none])
 ((.seq (.reg [⟨[], [], .wl 7 (.e 5)⟩, ⟨[], [], .nop⟩, ⟨[], [], .ca 123 [(.e 21), (.e 9)] 1⟩, ⟨[], [], .nop⟩] [some 0, none, some 2, some 3, none, some 5, none, none, some 8, some 22, none, none, none, none, none, none, none, none, none, none, none])
 ((.seq ((.seq (.reg [⟨[], [], .nop⟩, ⟨[], [], .bi .lss (.e 9) (.c (.n 0))⟩] [some 0, none, some 2, some 3, none, some 5, none, none, some 8, some 9, none, none, none, none, none, none, some 21, none, none, none, none])
 (.cond 16 ((.seq (.reg [⟨[], [], .cs .v (.b false)⟩] [none, some 21, none, none, none, none, none, none, none, none, none, none, none, none, none, none, none, none, none, none, none])
  (.ret))) (.skip))))
 ((.seq ((.seq (.reg [⟨[], [], .nop⟩, ⟨[], [], .nop⟩, ⟨[], [], .bi .neq (.e 9) (.e 8)⟩] [some 0, none, some 2, some 3, none, some 5, none, none, some 8, none, none, none, none, none, none, none, none, some 21, none, none, none])
 (.cond 17 ((.seq (.reg [⟨[], [], .cs .v (.b false)⟩] [none, some 21, none, none, none, none, none, none, none, none, none, none, none, none, none, none, none, none, none, none, none])
  (.ret))) (.skip))))
 ((.seq (.reg [⟨[], [], .nop⟩, ⟨[], [], .ca 42 [(.e 0)] 1⟩, ⟨[], [], .ca 334 [(.e 21)] 2⟩, ⟨[], [], .nop⟩, ⟨[], [], .nop⟩, ⟨[], [], .nop⟩, ⟨[], [], .cs (.b (.o (.o (.o .v)))) (.g [(.n 0), (.s []), (.s []), (.l []), (.l []), (.l []), (.l [])])⟩, ⟨[], [], .ws 24 7 (.e 22)⟩, ⟨[], [], .nop⟩] [none, none, some 2, some 3, none, some 5, none, none, some 8, none, some 25, some 23, none, none, none, none, none, none, none, none, none])
 ((.seq ((.seq (.reg [⟨[], [], .wl 7 (.e 10)⟩, ⟨[], [], .wl 7 (.e 2)⟩, ⟨[], [], .ca 119 [(.e 21), (.e 22)] 1⟩, ⟨[], [], .un .not (.e 23)⟩, ⟨[], [], .nop⟩, ⟨[], [(24, false)], .cy (.e 11)⟩, ⟨[], [(24, false)], .cy (.e 3)⟩, ⟨[], [(24, false)], .bb .neq (.e 25) (.e 26)⟩, ⟨[], [], .pk (.e 24) (.c (.b true)) (.e 27)⟩] [none, none, none, none, none, some 5, none, none, some 8, none, none, none, none, none, none, none, none, none, some 28, none, none])
 (.cond 18 ((.seq (.reg [⟨[], [], .cs .v (.b false)⟩] [none, some 21, none, none, none, none, none, none, none, none, none, none, none, none, none, none, none, none, none, none, none])
  (.ret))) (.skip))))
 ((.seq (.reg [⟨[], [], .cs .v (.n 1)⟩] [none, none, none, none, none, some 5, none, none, some 8, some 21, none, none, none, none, none, none, none, none, none, none, none])
 ((.seq (.reg [⟨[], [], .wl 7 (.e 5)⟩, ⟨[], [], .nop⟩, ⟨[], [], .ca 123 [(.e 21), (.e 9)] 1⟩, ⟨[], [], .nop⟩] [none, none, none, none, none, none, none, none, some 8, some 22, none, none, none, none, none, none, none, none, none, none, none])
 ((.seq ((.seq (.reg [⟨[], [], .nop⟩, ⟨[], [], .bi .lss (.e 9) (.c (.n 0))⟩] [none, none, none, none, none, none, none, none, some 8, some 9, none, none, none, none, none, none, none, none, none, some 21, none])
 (.cond 19 ((.seq (.reg [⟨[], [], .cs .v (.b false)⟩] [none, some 21, none, none, none, none, none, none, none, none, none, none, none, none, none, none, none, none, none, none, none])
  (.ret))) (.skip))))
 ((.seq ((.seq (.reg [⟨[], [], .nop⟩, ⟨[], [], .nop⟩, ⟨[], [], .bi .neq (.e 9) (.e 8)⟩] [none, none, none, none, none, none, none, none, none, none, none, none, none, none, none, none, none, none, none, none, some 21])
 (.cond 20 ((.seq (.reg [⟨[], [], .cs .v (.b false)⟩] [none, some 21, none, none, none, none, none, none, none, none, none, none, none, none, none, none, none, none, none, none, none])
  (.ret))) (.skip))))
 ((.seq (.reg [⟨[], [], .cs .v (.b true)⟩] [none, some 21, none, none, none, none, none, none, none, none, none, none, none, none, none, none, none, none, none, none, none])
 (.ret))))))))))))))))))))))))))))))))))))))))))))))⟩

end Go.Cat

namespace Go.Cat
/-- loop.example/g03401/spec.l1In -/
def ir_spec_l1In : IF := ⟨[], 3, 4, [3],
 (.seq (.reg [⟨[], [], .cs .v (.b false)⟩] [some 0, some 1, some 2, none])
 ((.seq (.reg [⟨[], [], .nop⟩, ⟨[], [], .nop⟩, ⟨[], [], .bi .geq (.e 0) (.e 1)⟩, ⟨[], [], .nop⟩, ⟨[], [(4, true)], .cy (.e 0)⟩, ⟨[], [(4, true)], .cy (.e 2)⟩, ⟨[], [(4, true)], .bi .leq (.e 5) (.e 6)⟩, ⟨[], [], .pk (.e 4) (.e 7) (.c (.b false))⟩, ⟨[], [], .nop⟩] [none, none, none, some 8])
 (.ret))))⟩

end Go.Cat

namespace Go.Cat
/-- loop.example/g03401/spec.IsDyck -/
def ir_spec_IsDyck : IF := ⟨[], 1, 9, [1],
 (.seq (.reg [⟨[], [], .cs .v (.b false)⟩] [some 0, none, none, none, none, none, none, none, none])
 ((.seq (.reg [⟨[], [], .cs .v (.n 0)⟩] [some 0, none, some 9, none, none, none, none, none, none])
 ((.seq ((.seq (.reg [⟨[], [], .cs .v (.n 0)⟩] [some 0, none, some 2, some 9, none, none, none, none, none])
 (.block 0 (.loop ((.seq ((.seq (.reg [⟨[], [], .nop⟩, ⟨[], [], .nop⟩, ⟨[], [], .sn (.e 0)⟩, ⟨[], [], .bi .lss (.e 3) (.e 9)⟩] [some 0, none, some 2, some 3, some 10, none, none, none, none])
   (.cond 4 (.skip) (.exit 0))))
   ((.seq (.block 1 ((.seq ((.seq (.reg [⟨[], [], .nop⟩, ⟨[], [], .nop⟩, ⟨[], [], .sx (.e 0) (.e 3)⟩] [some 0, none, some 2, some 3, none, some 9, none, none, none])
    (.block 2 ((.seq (.reg [⟨[], [], .bi .eql (.e 5) (.c (.y 117))⟩, ⟨[], [], .nop⟩] [some 0, none, some 2, some 3, none, some 5, some 9, none, none])
     (.cond 6 (.reg [⟨[], [], .nop⟩, ⟨[], [], .bi .add (.e 2) (.c (.n 1))⟩, ⟨[], [], .nop⟩] [some 0, none, some 9, some 3, none, none, none, none, none]) ((.seq (.reg [⟨[], [], .bi .eql (.e 5) (.c (.y 100))⟩, ⟨[], [], .nop⟩] [some 0, none, some 2, some 3, none, none, none, some 9, none])
      (.cond 7 (.reg [⟨[], [], .nop⟩, ⟨[], [], .bi .sub (.e 2) (.c (.n 1))⟩, ⟨[], [], .nop⟩] [some 0, none, some 9, some 3, none, none, none, none, none]) ((.seq (.reg [⟨[], [], .cs .v (.b false)⟩] [none, some 9, none, none, none, none, none, none, none])
       (.ret))))))))))))
    ((.seq (.reg [⟨[], [], .nop⟩, ⟨[], [], .bi .lss (.e 2) (.c (.n 0))⟩] [some 0, none, some 2, some 3, none, none, none, none, some 9])
    (.cond 8 ((.seq (.reg [⟨[], [], .cs .v (.b false)⟩] [none, some 9, none, none, none, none, none, none, none])
     (.ret))) (.skip)))))))
   (.reg [⟨[], [], .nop⟩, ⟨[], [], .bi .add (.e 3) (.c (.n 1))⟩, ⟨[], [], .nop⟩] [some 0, none, some 2, some 9, none, none, none, none, none])))))))))
 ((.seq (.reg [⟨[], [], .nop⟩, ⟨[], [], .bi .eql (.e 2) (.c (.n 0))⟩, ⟨[], [], .nop⟩, ⟨[], [(9, true)], .cy (.e 0)⟩, ⟨[], [(9, true)], .sn (.e 10)⟩, ⟨[], [(9, true)], .bi .leq (.e 11) (.c (.n 16))⟩, ⟨[], [], .pk (.e 9) (.e 12) (.c (.b false))⟩, ⟨[], [], .nop⟩] [none, some 13, none, none, none, none, none, none, none])
 (.ret))))))))⟩

end Go.Cat

namespace Go.Cat
/-- loop.example/g03401/spec.PathsOf -/
def ir_spec_PathsOf : IF := ⟨[], 1, 3, [1],
 (.seq (.reg [⟨[], [], .cs (.o .v) (.l [])⟩] [some 0, none, none])
 ((.seq ((.seq (.reg [⟨[], [], .nop⟩, ⟨[], [], .ca 22 [(.e 0), (.c (.n 0)), (.c (.n 6))] 1⟩, ⟨[], [], .un .not (.e 3)⟩] [some 0, none, some 4])
 (.cond 2 ((.seq (.reg [⟨[], [], .li (.o .v) []⟩, ⟨[], [], .nop⟩] [none, some 3, none])
  (.ret))) (.skip))))
 ((.seq (.reg [⟨[], [], .nop⟩, ⟨[], [], .nop⟩, ⟨[], [], .ca 292 [(.c (.s [])), (.e 0), (.e 0)] 1⟩, ⟨[], [], .nop⟩] [none, some 3, none])
 (.ret))))))⟩

/-- loop.example/g03401/spec.l3All -/
def ir_spec_l3All : IF := ⟨[], 3, 8, [3],
 (.seq (.reg [⟨[], [], .cs (.o .v) (.l [])⟩] [some 0, some 1, some 2, none, none, none, none, none])
 ((.seq ((.seq (.reg [⟨[], [], .nop⟩, ⟨[], [], .bi .eql (.e 2) (.c (.n 0))⟩] [some 0, some 1, some 2, none, none, some 8, none, none])
 (.cond 5 ((.seq (.reg [⟨[], [], .nop⟩, ⟨[], [], .li (.o .v) [(.e 0)]⟩, ⟨[], [], .nop⟩] [none, none, none, some 8, none, none, none, none])
  (.ret))) (.skip))))
 ((.seq (.reg [⟨[], [], .li (.o .v) []⟩, ⟨[], [], .nop⟩] [some 0, some 1, some 2, none, some 8, none, none, none])
 ((.seq ((.seq (.reg [⟨[], [], .nop⟩, ⟨[], [], .bi .gtr (.e 1) (.c (.n 0))⟩] [some 0, some 1, some 2, none, some 4, none, some 8, none])
 (.cond 6 (.reg [⟨[], [], .nop⟩, ⟨[], [], .nop⟩, ⟨[], [], .bi .add (.e 0) (.c (.s [117]))⟩, ⟨[], [], .nop⟩, ⟨[], [], .bi .sub (.e 1) (.c (.n 1))⟩, ⟨[], [], .nop⟩, ⟨[], [], .ca 292 [(.e 8), (.e 9), (.e 2)] 1⟩, ⟨[], [], .ap false (.e 4) (.e 10)⟩, ⟨[], [], .nop⟩] [some 0, some 1, some 2, none, some 11, none, none, none]) (.skip))))
 ((.seq ((.seq (.reg [⟨[], [], .nop⟩, ⟨[], [], .nop⟩, ⟨[], [], .bi .gtr (.e 2) (.e 1)⟩] [some 0, some 1, some 2, none, some 4, none, none, some 8])
 (.cond 7 (.reg [⟨[], [], .nop⟩, ⟨[], [], .nop⟩, ⟨[], [], .bi .add (.e 0) (.c (.s [100]))⟩, ⟨[], [], .nop⟩, ⟨[], [], .nop⟩, ⟨[], [], .bi .sub (.e 2) (.c (.n 1))⟩, ⟨[], [], .ca 292 [(.e 8), (.e 1), (.e 9)] 1⟩, ⟨[], [], .ap false (.e 4) (.e 10)⟩, ⟨[], [], .nop⟩] [none, none, none, none, some 11, none, none, none]) (.skip))))
 ((.seq (.reg [⟨[], [], .nop⟩, ⟨[], [], .nop⟩] [none, none, none, some 4, none, none, none, none])
 (.ret))))))))))))⟩

end Go.Cat

namespace Go.Cat
/-- loop.example/g03401/spec.l4Partner -/
def ir_spec_l4Partner : IF := ⟨[], 2, 13, [2],
 (.seq (.reg [⟨[], [], .cs .v (.n 0)⟩] [some 0, some 1, none, none, none, none, none, none, none, none, none, none, none])
 ((.seq (.reg [⟨[], [], .cs .v (.n 0)⟩] [some 0, some 1, none, some 13, none, none, none, none, none, none, none, none, none])
 ((.seq ((.seq (.reg [⟨[], [], .nop⟩, ⟨[], [], .nop⟩, ⟨[], [], .sx (.e 0) (.e 1)⟩, ⟨[], [], .bi .eql (.e 13) (.c (.y 117))⟩] [some 0, some 1, none, some 3, none, none, some 14, none, none, none, none, none, none])
 (.cond 6 ((.seq (.reg [⟨[], [], .nop⟩, ⟨[], [], .nop⟩] [some 0, some 1, none, some 3, some 1, none, none, none, none, none, none, none, none])
  (.block 0 (.loop ((.seq ((.seq (.reg [⟨[], [], .nop⟩, ⟨[], [], .nop⟩, ⟨[], [], .sn (.e 0)⟩, ⟨[], [], .bi .lss (.e 4) (.e 13)⟩] [some 0, some 1, none, some 3, some 4, none, none, some 14, none, none, none, none, none])
    (.cond 7 (.skip) (.exit 0))))
    ((.seq (.block 1 ((.seq ((.seq (.reg [⟨[], [], .nop⟩, ⟨[], [], .nop⟩, ⟨[], [], .sx (.e 0) (.e 4)⟩, ⟨[], [], .bi .eql (.e 13) (.c (.y 117))⟩] [some 0, some 1, none, some 3, some 4, none, none, none, some 14, none, none, none, none])
     (.cond 8 (.reg [⟨[], [], .nop⟩, ⟨[], [], .bi .add (.e 3) (.c (.n 1))⟩, ⟨[], [], .nop⟩] [some 0, some 1, none, some 13, some 4, none, none, none, none, none, none, none, none]) (.reg [⟨[], [], .nop⟩, ⟨[], [], .bi .sub (.e 3) (.c (.n 1))⟩, ⟨[], [], .nop⟩] [some 0, some 1, none, some 13, some 4, none, none, none, none, none, none, none, none]))))
     ((.seq (.reg [⟨[], [], .nop⟩, ⟨[], [], .bi .eql (.e 3) (.c (.n 0))⟩] [some 0, some 1, none, some 3, some 4, none, none, none, none, some 13, none, none, none])
     (.cond 9 ((.seq (.reg [⟨[], [], .nop⟩, ⟨[], [], .nop⟩] [none, none, some 4, none, none, none, none, none, none, none, none, none, none])
      (.ret))) (.skip)))))))
    (.reg [⟨[], [], .nop⟩, ⟨[], [], .bi .add (.e 4) (.c (.n 1))⟩, ⟨[], [], .nop⟩] [some 0, some 1, none, some 3, some 13, none, none, none, none, none, none, none, none]))))))))) (.skip))))
 ((.seq ((.seq (.reg [⟨[], [], .nop⟩, ⟨[], [], .nop⟩] [some 0, none, none, some 3, none, some 1, none, none, none, none, none, none, none])
 (.block 2 (.loop ((.seq ((.seq (.reg [⟨[], [], .nop⟩, ⟨[], [], .bi .geq (.e 5) (.c (.n 0))⟩] [some 0, none, none, some 3, none, some 5, none, none, none, none, some 13, none, none])
   (.cond 10 (.skip) (.exit 2))))
   ((.seq (.block 3 ((.seq ((.seq (.reg [⟨[], [], .nop⟩, ⟨[], [], .nop⟩, ⟨[], [], .sx (.e 0) (.e 5)⟩, ⟨[], [], .bi .eql (.e 13) (.c (.y 100))⟩] [some 0, none, none, some 3, none, some 5, none, none, none, none, none, some 14, none])
    (.cond 11 (.reg [⟨[], [], .nop⟩, ⟨[], [], .bi .add (.e 3) (.c (.n 1))⟩, ⟨[], [], .nop⟩] [some 0, none, none, some 13, none, some 5, none, none, none, none, none, none, none]) (.reg [⟨[], [], .nop⟩, ⟨[], [], .bi .sub (.e 3) (.c (.n 1))⟩, ⟨[], [], .nop⟩] [some 0, none, none, some 13, none, some 5, none, none, none, none, none, none, none]))))
    ((.seq (.reg [⟨[], [], .nop⟩, ⟨[], [], .bi .eql (.e 3) (.c (.n 0))⟩] [some 0, none, none, some 3, none, some 5, none, none, none, none, none, none, some 13])
    (.cond 12 ((.seq (.reg [⟨[], [], .nop⟩, ⟨[], [], .nop⟩] [none, none, some 5, none, none, none, none, none, none, none, none, none, none])
     (.ret))) (.skip)))))))
   (.reg [⟨[], [], .nop⟩, ⟨[], [], .bi .sub (.e 5) (.c (.n 1))⟩, ⟨[], [], .nop⟩] [some 0, none, none, some 3, none, some 13, none, none, none, none, none, none, none])))))))))
 ((.seq (.reg [⟨[], [], .cs .v (.n (-1))⟩] [none, none, some 13, none, none, none, none, none, none, none, none, none, none])
 (.ret))))))))))⟩

end Go.Cat

namespace Go.Cat
/-- loop.example/g03401/spec.CrossingsOf -/
def ir_spec_CrossingsOf : IF := ⟨[], 1, 9, [1],
 (.seq (.reg [⟨[], [], .cs .v (.n 0)⟩] [some 0, none, none, none, none, none, none, none, none])
 ((.seq ((.seq (.reg [⟨[], [], .nop⟩, ⟨[], [], .ca 379 [(.e 0)] 1⟩, ⟨[], [], .un .not (.e 9)⟩] [some 0, none, none, none, none, some 10, none, none, none])
 (.cond 5 ((.seq (.reg [⟨[], [], .cs .v (.n (-1))⟩] [none, some 9, none, none, none, none, none, none, none])
  (.ret))) (.skip))))
 ((.seq (.reg [⟨[], [], .cs .v (.n 0)⟩] [some 0, none, some 9, none, none, none, none, none, none])
 ((.seq ((.seq (.reg [⟨[], [], .cs .v (.n 0)⟩] [some 0, none, some 2, some 9, none, none, none, none, none])
 (.block 0 (.loop ((.seq ((.seq (.reg [⟨[], [], .nop⟩, ⟨[], [], .nop⟩, ⟨[], [], .ln (.e 0) []⟩, ⟨[], [], .bi .lss (.e 3) (.e 9)⟩] [some 0, none, some 2, some 3, none, none, some 10, none, none])
   (.cond 6 (.skip) (.exit 0))))
   ((.seq (.block 1 ((.seq (.reg [⟨[], [], .nop⟩, ⟨[], [], .bi .add (.e 3) (.c (.n 1))⟩, ⟨[], [], .nop⟩] [some 0, none, some 2, some 3, some 9, none, none, none, none])
    (.block 2 (.loop ((.seq ((.seq (.reg [⟨[], [], .nop⟩, ⟨[], [], .nop⟩, ⟨[], [], .ln (.e 0) []⟩, ⟨[], [], .bi .lss (.e 4) (.e 9)⟩] [some 0, none, some 2, some 3, some 4, none, none, some 10, none])
      (.cond 7 (.skip) (.exit 2))))
      ((.seq (.block 3 ((.seq (.reg [⟨[], [], .nop⟩, ⟨[], [], .nop⟩, ⟨[], [], .nop⟩, ⟨[], [], .iy (.e 0) (.e 3)⟩, ⟨[], [], .nop⟩, ⟨[], [], .bi .lss (.e 4) (.e 9)⟩, ⟨[], [], .nop⟩, ⟨[], [(10, true)], .nop⟩, ⟨[], [(10, true)], .cy (.e 3)⟩, ⟨[], [(10, true)], .iy (.e 0) (.e 11)⟩, ⟨[], [(10, true)], .nop⟩, ⟨[], [(10, true)], .nop⟩, ⟨[], [(10, true)], .cy (.e 4)⟩, ⟨[], [(10, true)], .iy (.e 0) (.e 13)⟩, ⟨[], [(10, true)], .nop⟩, ⟨[], [(10, true)], .bi .lss (.e 12) (.e 14)⟩, ⟨[], [], .pk (.e 10) (.e 15) (.c (.b false))⟩] [some 0, none, some 2, some 3, some 4, none, none, none, some 16])
       (.cond 8 (.reg [⟨[], [], .nop⟩, ⟨[], [], .bi .add (.e 2) (.c (.n 1))⟩, ⟨[], [], .nop⟩] [some 0, none, some 9, some 3, some 4, none, none, none, none]) (.skip)))))
      (.reg [⟨[], [], .nop⟩, ⟨[], [], .bi .add (.e 4) (.c (.n 1))⟩, ⟨[], [], .nop⟩] [some 0, none, some 2, some 3, some 9, none, none, none, none]))))))))))
   (.reg [⟨[], [], .nop⟩, ⟨[], [], .bi .add (.e 3) (.c (.n 1))⟩, ⟨[], [], .nop⟩] [some 0, none, some 2, some 9, none, none, none, none, none])))))))))
 ((.seq (.reg [⟨[], [], .nop⟩, ⟨[], [], .nop⟩] [none, some 2, none, none, none, none, none, none, none])
 (.ret))))))))))⟩

/-- loop.example/g03401/spec.IsMatching -/
def ir_spec_IsMatching : IF := ⟨[], 1, 5, [1],
 (.seq (.reg [⟨[], [], .cs .v (.b false)⟩] [some 0, none, none, none, none])
 ((.seq ((.seq (.reg [⟨[], [], .cs .v (.n 0)⟩] [some 0, none, some 5, none, none])
 (.block 0 (.loop ((.seq ((.seq (.reg [⟨[], [], .nop⟩, ⟨[], [], .nop⟩, ⟨[], [], .ln (.e 0) []⟩, ⟨[], [], .bi .lss (.e 2) (.e 5)⟩] [some 0, none, some 2, some 6, none])
   (.cond 3 (.skip) (.exit 0))))
   ((.seq (.block 1 ((.seq (.reg [⟨[], [], .nop⟩, ⟨[], [], .nop⟩, ⟨[], [], .iy (.e 0) (.e 2)⟩, ⟨[], [], .nop⟩, ⟨[], [], .nop⟩, ⟨[], [], .ln (.e 0) []⟩, ⟨[], [], .bi .sub (.e 6) (.c (.n 1))⟩, ⟨[], [], .ca 22 [(.e 5), (.c (.n 0)), (.e 7)] 1⟩, ⟨[], [], .un .not (.e 8)⟩, ⟨[], [], .nop⟩, ⟨[], [(9, false)], .nop⟩, ⟨[], [(9, false)], .cy (.e 2)⟩, ⟨[], [(9, false)], .iy (.e 0) (.e 10)⟩, ⟨[], [(9, false)], .nop⟩, ⟨[], [(9, false)], .cy (.e 2)⟩, ⟨[], [(9, false)], .bi .eql (.e 11) (.e 12)⟩, ⟨[], [], .pk (.e 9) (.c (.b true)) (.e 13)⟩, ⟨[], [], .nop⟩, ⟨[], [(14, false)], .nop⟩, ⟨[], [(14, false)], .nop⟩, ⟨[], [(14, false)], .cy (.e 2)⟩, ⟨[], [(14, false)], .iy (.e 0) (.e 15)⟩, ⟨[], [(14, false)], .nop⟩, ⟨[], [(14, false)], .iy (.e 0) (.e 16)⟩, ⟨[], [(14, false)], .nop⟩, ⟨[], [(14, false)], .cy (.e 2)⟩, ⟨[], [(14, false)], .bi .neq (.e 17) (.e 18)⟩, ⟨[], [], .pk (.e 14) (.c (.b true)) (.e 19)⟩] [some 0, none, some 2, none, some 20])
    (.cond 4 ((.seq (.reg [⟨[], [], .cs .v (.b false)⟩] [none, some 5, none, none, none])
     (.ret))) (.skip)))))
   (.reg [⟨[], [], .nop⟩, ⟨[], [], .bi .add (.e 2) (.c (.n 1))⟩, ⟨[], [], .nop⟩] [some 0, none, some 5, none, none])))))))))
 ((.seq (.reg [⟨[], [], .nop⟩, ⟨[], [], .ln (.e 0) []⟩, ⟨[], [], .bi .leq (.e 5) (.c (.n 16))⟩, ⟨[], [], .nop⟩] [none, some 6, none, none, none])
 (.ret))))))⟩

/-- loop.example/g03401/spec.IsNoncrossingMatching -/
def ir_spec_IsNoncrossingMatching : IF := ⟨[], 1, 2, [1],
 (.seq (.reg [⟨[], [], .cs .v (.b false)⟩] [some 0, none])
 ((.seq (.reg [⟨[], [], .nop⟩, ⟨[], [], .ca 369 [(.e 0)] 1⟩, ⟨[], [], .bi .eql (.e 2) (.c (.n 0))⟩, ⟨[], [], .nop⟩] [none, some 3])
 (.ret))))⟩

/-- loop.example/g03401/spec.MatchingOf -/
def ir_spec_MatchingOf : IF := ⟨[], 1, 6, [1, 2],
 (.seq (.reg [⟨[], [], .cs (.o .v) (.l [])⟩, ⟨[], [], .cs .v (.b false)⟩] [some 0, none, none, none, none, none])
 ((.seq (.reg [⟨[], [], .li (.o .v) []⟩, ⟨[], [], .nop⟩] [some 0, none, none, some 6, none, none])
 ((.seq ((.seq (.reg [⟨[], [], .cs .v (.n 0)⟩] [some 0, none, none, some 3, some 6, none])
 (.block 0 (.loop ((.seq ((.seq (.reg [⟨[], [], .nop⟩, ⟨[], [], .nop⟩, ⟨[], [], .sn (.e 0)⟩, ⟨[], [], .bi .lss (.e 4) (.e 6)⟩, ⟨[], [], .nop⟩, ⟨[], [(7, true)], .cy (.e 0)⟩, ⟨[], [(7, true)], .ca 64 [(.e 8)] 1⟩, ⟨[], [], .pk (.e 7) (.e 9) (.c (.b false))⟩] [some 0, none, none, some 3, some 4, some 10])
   (.cond 5 (.skip) (.exit 0))))
   ((.seq (.block 1 (.reg [⟨[], [], .nop⟩, ⟨[], [], .nop⟩, ⟨[], [], .nop⟩, ⟨[], [], .ca 370 [(.e 0), (.e 4)] 1⟩, ⟨[], [], .li (.o .v) [(.e 6)]⟩, ⟨[], [], .ap false (.e 3) (.e 7)⟩, ⟨[], [], .nop⟩] [some 0, none, none, some 8, some 4, none]))
   (.reg [⟨[], [], .nop⟩, ⟨[], [], .bi .add (.e 4) (.c (.n 1))⟩, ⟨[], [], .nop⟩] [some 0, none, none, some 3, some 6, none])))))))))
 ((.seq (.reg [⟨[], [], .nop⟩, ⟨[], [], .nop⟩, ⟨[], [], .ca 64 [(.e 0)] 1⟩, ⟨[], [], .nop⟩, ⟨[], [], .nop⟩] [none, some 3, some 6, none, none, none])
 (.ret))))))))⟩

end Go.Cat

namespace Go.Cat
/-- loop.example/g03401/spec.IsMeander -/
def ir_spec_IsMeander : IF := ⟨[], 2, 3, [2],
 (.seq (.reg [⟨[], [], .cs .v (.b false)⟩] [some 0, some 1, none])
 ((.seq (.reg [⟨[], [], .nop⟩, ⟨[], [], .nop⟩, ⟨[], [], .ca 371 [(.e 0), (.e 1)] 1⟩, ⟨[], [], .bi .eql (.e 3) (.c (.n 1))⟩, ⟨[], [], .nop⟩] [none, none, some 4])
 (.ret))))⟩

/-- loop.example/g03401/spec.LoopsOf -/
def ir_spec_LoopsOf : IF := ⟨[], 2, 11, [2],
 (.seq (.reg [⟨[], [], .cs .v (.n 0)⟩] [some 0, some 1, none, none, none, none, none, none, none, none, none])
 ((.seq ((.seq (.reg [⟨[], [], .nop⟩, ⟨[], [], .ca 355 [(.e 0)] 1⟩, ⟨[], [], .un .not (.e 11)⟩, ⟨[], [], .nop⟩, ⟨[], [(12, false)], .nop⟩, ⟨[], [(12, false)], .ca 355 [(.e 1)] 1⟩, ⟨[], [(12, false)], .un .not (.e 13)⟩, ⟨[], [], .pk (.e 12) (.c (.b true)) (.e 14)⟩, ⟨[], [], .nop⟩, ⟨[], [(15, false)], .nop⟩, ⟨[], [(15, false)], .ln (.e 0) []⟩, ⟨[], [(15, false)], .nop⟩, ⟨[], [(15, false)], .ln (.e 1) []⟩, ⟨[], [(15, false)], .bi .neq (.e 16) (.e 17)⟩, ⟨[], [], .pk (.e 15) (.c (.b true)) (.e 18)⟩] [some 0, some 1, none, none, none, none, none, some 19, none, none, none])
 (.cond 7 ((.seq (.reg [⟨[], [], .cs .v (.n (-1))⟩] [none, none, some 11, none, none, none, none, none, none, none, none])
  (.ret))) (.skip))))
 ((.seq (.reg [⟨[], [], .nop⟩, ⟨[], [], .ln (.e 0) []⟩, ⟨[], [], .mk (.b false) (.e 11) (.e 11)⟩, ⟨[], [], .nop⟩] [some 0, some 1, none, some 12, none, none, none, none, none, none, none])
 ((.seq (.reg [⟨[], [], .cs .v (.n 0)⟩] [some 0, some 1, none, some 3, some 11, none, none, none, none, none, none])
 ((.seq ((.seq (.reg [⟨[], [], .cs .v (.n 0)⟩] [some 0, some 1, none, some 3, some 4, some 11, none, none, none, none, none])
 (.block 0 (.loop ((.seq ((.seq (.reg [⟨[], [], .nop⟩, ⟨[], [], .nop⟩, ⟨[], [], .ln (.e 0) []⟩, ⟨[], [], .bi .lss (.e 5) (.e 11)⟩] [some 0, some 1, none, some 3, some 4, some 5, none, none, some 12, none, none])
   (.cond 8 (.skip) (.exit 0))))
   ((.seq (.block 1 ((.seq ((.seq (.reg [⟨[], [], .nop⟩, ⟨[], [], .nop⟩, ⟨[], [], .ix (.e 3) [] (.e 5)⟩, ⟨[], [], .nop⟩] [some 0, some 1, none, some 3, some 4, some 5, none, none, none, some 11, none])
    (.cond 9 (.exit 1) (.skip))))
    ((.seq (.reg [⟨[], [], .nop⟩, ⟨[], [], .bi .add (.e 4) (.c (.n 1))⟩, ⟨[], [], .nop⟩] [some 0, some 1, none, some 3, some 11, some 5, none, none, none, none, none])
    ((.seq (.reg [⟨[], [], .nop⟩, ⟨[], [], .nop⟩] [some 0, some 1, none, some 3, some 4, some 5, some 5, none, none, none, none])
    (.block 2 (.loop ((.seq ((.seq (.reg [⟨[], [], .nop⟩, ⟨[], [], .nop⟩, ⟨[], [], .ix (.e 3) [] (.e 6)⟩, ⟨[], [], .nop⟩, ⟨[], [], .un .not (.e 11)⟩] [some 0, some 1, none, some 3, some 4, some 5, some 6, none, none, none, some 12])
      (.cond 10 (.skip) (.exit 2))))
      ((.seq (.block 3 ((.seq (.reg [⟨[], [], .nop⟩, ⟨[], [], .nop⟩, ⟨[], [], .ix (.e 3) [] (.e 6)⟩, ⟨[], [], .up 3 [.e 6] (.c (.b true))⟩] [some 0, some 1, none, some 12, some 4, some 5, some 6, none, none, none, none])
       (.reg [⟨[], [], .nop⟩, ⟨[], [], .nop⟩, ⟨[], [], .nop⟩, ⟨[], [], .iy (.e 0) (.e 6)⟩, ⟨[], [], .nop⟩, ⟨[], [], .ix (.e 3) [] (.e 11)⟩, ⟨[], [], .up 3 [.e 11] (.c (.b true))⟩] [some 0, some 1, none, some 13, some 4, some 5, some 6, none, none, none, none]))))
      (.reg [⟨[], [], .nop⟩, ⟨[], [], .nop⟩, ⟨[], [], .nop⟩, ⟨[], [], .iy (.e 0) (.e 6)⟩, ⟨[], [], .nop⟩, ⟨[], [], .iy (.e 1) (.e 11)⟩, ⟨[], [], .nop⟩, ⟨[], [], .nop⟩] [some 0, some 1, none, some 3, some 4, some 5, some 12, none, none, none, none]))))))))))))))
   (.reg [⟨[], [], .nop⟩, ⟨[], [], .bi .add (.e 5) (.c (.n 1))⟩, ⟨[], [], .nop⟩] [some 0, some 1, none, some 3, some 4, some 11, none, none, none, none, none])))))))))
 ((.seq (.reg [⟨[], [], .nop⟩, ⟨[], [], .nop⟩] [none, none, some 4, none, none, none, none, none, none, none, none])
 (.ret))))))))))))⟩

/-- loop.example/g03401/spec.MeanderPartner -/
def ir_spec_MeanderPartner : IF := ⟨[], 1, 10, [1, 2],
 (.seq (.reg [⟨[], [], .cs (.o .v) (.l [])⟩, ⟨[], [], .cs .v (.b false)⟩] [some 0, none, none, none, none, none, none, none, none, none])
 ((.seq (.reg [⟨[], [], .nop⟩, ⟨[], [], .ln (.e 0) []⟩, ⟨[], [], .bi .quo (.e 10) (.c (.n 2))⟩, ⟨[], [], .nop⟩] [some 0, none, none, some 11, none, none, none, none, none, none])
 ((.seq ((.seq (.reg [⟨[], [], .nop⟩, ⟨[], [], .ca 355 [(.e 0)] 1⟩, ⟨[], [], .un .not (.e 10)⟩, ⟨[], [], .nop⟩, ⟨[], [(11, false)], .cy (.e 3)⟩, ⟨[], [(11, false)], .ca 22 [(.e 12), (.c (.n 1)), (.c (.n 6))] 1⟩, ⟨[], [(11, false)], .un .not (.e 13)⟩, ⟨[], [], .pk (.e 11) (.c (.b true)) (.e 14)⟩] [some 0, none, none, some 3, none, none, none, some 15, none, none])
 (.cond 7 ((.seq (.reg [⟨[], [], .li (.o .v) []⟩, ⟨[], [], .nop⟩, ⟨[], [], .cs .v (.b false)⟩] [none, some 10, some 11, none, none, none, none, none, none, none])
  (.ret))) (.skip))))
 ((.seq (.reg [⟨[], [], .nop⟩, ⟨[], [], .ca 234 [(.e 3)] 1⟩, ⟨[], [], .nop⟩] [some 0, none, none, none, some 10, none, none, none, none, none])
 ((.seq ((.seq (.reg [⟨[], [], .cs .v (.n 0)⟩] [some 0, none, none, none, some 4, some 10, none, none, none, none])
 (.block 0 (.loop ((.seq ((.seq (.reg [⟨[], [], .nop⟩, ⟨[], [], .nop⟩, ⟨[], [], .ln (.e 4) []⟩, ⟨[], [], .bi .lss (.e 5) (.e 10)⟩] [some 0, none, none, none, some 4, some 5, none, none, some 11, none])
   (.cond 8 (.skip) (.exit 0))))
   ((.seq (.block 1 ((.seq (.reg [⟨[], [], .nop⟩, ⟨[], [], .nop⟩, ⟨[], [], .ix (.e 4) [] (.e 5)⟩, ⟨[], [], .nop⟩, ⟨[], [], .ca 356 [(.e 10)] 2⟩, ⟨[], [], .nop⟩, ⟨[], [], .nop⟩, ⟨[], [], .nop⟩, ⟨[], [], .nop⟩, ⟨[], [], .nop⟩] [some 0, none, none, none, some 4, some 5, some 11, none, none, none])
    ((.seq (.reg [⟨[], [], .nop⟩, ⟨[], [], .nop⟩, ⟨[], [], .ca 357 [(.e 0), (.e 6)] 1⟩] [some 0, none, none, none, some 4, some 5, some 6, none, none, some 10])
    (.cond 9 ((.seq (.reg [⟨[], [], .nop⟩, ⟨[], [], .nop⟩, ⟨[], [], .cs .v (.b true)⟩] [none, some 6, some 10, none, none, none, none, none, none, none])
     (.ret))) (.skip)))))))
   (.reg [⟨[], [], .nop⟩, ⟨[], [], .bi .add (.e 5) (.c (.n 1))⟩, ⟨[], [], .nop⟩] [some 0, none, none, none, some 4, some 10, none, none, none, none])))))))))
 ((.seq (.reg [⟨[], [], .li (.o .v) []⟩, ⟨[], [], .nop⟩, ⟨[], [], .cs .v (.b false)⟩] [none, some 10, some 11, none, none, none, none, none, none, none])
 (.ret))))))))))))⟩

end Go.Cat

namespace Go.Cat
/-- loop.example/g03401/spec.ClaimOfMeander -/
def ir_spec_ClaimOfMeander : IF := ⟨[(0, 7)], 1, 6, [1, 2],
 (.seq (.reg [⟨[], [], .cs (.b (.o (.o (.o .v)))) (.g [(.n 0), (.s []), (.s []), (.l []), (.l []), (.l []), (.l [])])⟩, ⟨[], [], .cs .v (.b false)⟩] [some 0, some 6, none, none, none, none])
 ((.seq (.reg [⟨[], [], .nop⟩, ⟨[], [], .ca 343 [(.e 0)] 2⟩, ⟨[], [], .nop⟩, ⟨[], [], .nop⟩, ⟨[], [], .nop⟩, ⟨[], [], .nop⟩, ⟨[], [], .nop⟩] [some 0, some 1, none, some 6, some 7, none])
 ((.seq ((.seq (.reg [⟨[], [], .nop⟩, ⟨[], [], .un .not (.e 4)⟩] [some 0, some 1, none, some 3, none, some 6])
 (.cond 5 ((.seq (.reg [⟨[], [], .bg 3 [((.c (.n 0)), 0), ((.c (.s [])), 0), ((.c (.s [])), 0), ((.c (.l [])), 1), ((.c (.l [])), 1), ((.c (.l [])), 1), ((.c (.l [])), 1)]⟩, ⟨[], [], .ws 1 7 (.e 6)⟩, ⟨[], [], .cs .v (.b false)⟩] [none, some 7, some 8, none, none, none])
  (.ret))) (.skip))))
 ((.seq (.reg [⟨[], [], .li (.o .v) []⟩, ⟨[], [], .nop⟩, ⟨[], [], .ap true (.e 6) (.e 0)⟩, ⟨[], [], .nop⟩, ⟨[], [], .bg 3 [((.c (.n 6)), 0), ((.c (.s [])), 0), ((.c (.s [])), 0), ((.c (.l [])), 1), ((.e 7), 1), ((.e 3), 1), ((.c (.l [])), 1)]⟩, ⟨[], [], .ws 1 7 (.e 8)⟩, ⟨[], [], .cs .v (.b true)⟩] [none, some 9, some 10, none, none, none])
 (.ret))))))))⟩

end Go.Cat

namespace Go.Cat
end Go.Cat

namespace Go.Cat
end Go.Cat

namespace Go.Cat
end Go.Cat

namespace Go.Cat
end Go.Cat

namespace Go.Cat
end Go.Cat

namespace Go.Cat
end Go.Cat

namespace Go.Cat
end Go.Cat

namespace Go.Cat
end Go.Cat

namespace Go.Cat
end Go.Cat

namespace Go.Cat
end Go.Cat

namespace Go.Cat
end Go.Cat

namespace Go.Cat
end Go.Cat

namespace Go.Cat
end Go.Cat

namespace Go.Cat
end Go.Cat

namespace Go.Cat
end Go.Cat

namespace Go.Cat
end Go.Cat

namespace Go.Cat
end Go.Cat

namespace Go.Cat
end Go.Cat

