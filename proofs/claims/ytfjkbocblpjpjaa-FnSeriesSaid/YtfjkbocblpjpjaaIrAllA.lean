/-
  Texts of the little language.
-/
import Derived.Test.YtfjkbocblpjpjaaCatTwo
namespace Go.Cat
/-- loop.example/g03401/laws.big -/
def ir_laws_big : IF := ⟨[], 1, 2, [1],
 (.seq (.reg [⟨[], [], .cs .v (.b false)⟩] [some 0, none])
 ((.seq (.reg [⟨[], [], .nop⟩, ⟨[], [], .ln (.e 0) []⟩, ⟨[], [], .bi .gtr (.e 2) (.c (.n 1048576))⟩, ⟨[], [], .nop⟩] [none, some 3])
 (.ret))))⟩

/-- loop.example/g03401/laws.eqClaim -/
def ir_laws_eqClaim : IF := ⟨[], 2, 12, [4],
 (.seq (.reg [⟨[], [], .bp (.e 0)⟩, ⟨[], [], .bp (.e 1)⟩, ⟨[], [], .cs .v (.b false)⟩] [none, none, some 12, some 13, none, none, none, none, none, none, none, none])
 ((.seq ((.seq (.reg [⟨[], [], .fp true (.e 2) 0⟩, ⟨[], [], .nop⟩, ⟨[], [], .fp true (.e 3) 0⟩, ⟨[], [], .nop⟩, ⟨[], [], .bi .neq (.e 12) (.e 13)⟩] [none, none, some 2, some 3, none, some 14, none, none, none, none, none, none])
 (.cond 5 ((.seq (.reg [⟨[], [], .cs .v (.b false)⟩] [none, none, none, none, some 12, none, none, none, none, none, none, none])
  (.ret))) (.skip))))
 ((.seq ((.seq (.reg [⟨[], [], .fp true (.e 2) 1⟩, ⟨[], [], .nop⟩, ⟨[], [], .fp true (.e 3) 1⟩, ⟨[], [], .nop⟩, ⟨[], [], .bi .neq (.e 12) (.e 13)⟩] [none, none, some 2, some 3, none, none, some 14, none, none, none, none, none])
 (.cond 6 ((.seq (.reg [⟨[], [], .cs .v (.b false)⟩] [none, none, none, none, some 12, none, none, none, none, none, none, none])
  (.ret))) (.skip))))
 ((.seq ((.seq (.reg [⟨[], [], .fp true (.e 2) 2⟩, ⟨[], [], .nop⟩, ⟨[], [], .fp true (.e 3) 2⟩, ⟨[], [], .nop⟩, ⟨[], [], .bi .neq (.e 12) (.e 13)⟩] [none, none, some 2, some 3, none, none, none, some 14, none, none, none, none])
 (.cond 7 ((.seq (.reg [⟨[], [], .cs .v (.b false)⟩] [none, none, none, none, some 12, none, none, none, none, none, none, none])
  (.ret))) (.skip))))
 ((.seq ((.seq (.reg [⟨[], [], .fp false (.e 2) 3⟩, ⟨[], [], .nop⟩, ⟨[], [], .fp false (.e 3) 3⟩, ⟨[], [], .nop⟩, ⟨[], [], .ca 15 [(.e 12), (.e 13)] 1⟩, ⟨[], [], .un .not (.e 14)⟩] [none, none, some 2, some 3, none, none, none, none, some 15, none, none, none])
 (.cond 8 ((.seq (.reg [⟨[], [], .cs .v (.b false)⟩] [none, none, none, none, some 12, none, none, none, none, none, none, none])
  (.ret))) (.skip))))
 ((.seq ((.seq (.reg [⟨[], [], .fp false (.e 2) 4⟩, ⟨[], [], .nop⟩, ⟨[], [], .fp false (.e 3) 4⟩, ⟨[], [], .nop⟩, ⟨[], [], .ca 44 [(.e 12), (.e 13)] 1⟩, ⟨[], [], .un .not (.e 14)⟩] [none, none, some 2, some 3, none, none, none, none, none, some 15, none, none])
 (.cond 9 ((.seq (.reg [⟨[], [], .cs .v (.b false)⟩] [none, none, none, none, some 12, none, none, none, none, none, none, none])
  (.ret))) (.skip))))
 ((.seq ((.seq (.reg [⟨[], [], .fp false (.e 2) 5⟩, ⟨[], [], .nop⟩, ⟨[], [], .fp false (.e 3) 5⟩, ⟨[], [], .nop⟩, ⟨[], [], .ca 44 [(.e 12), (.e 13)] 1⟩, ⟨[], [], .un .not (.e 14)⟩] [none, none, some 2, some 3, none, none, none, none, none, none, some 15, none])
 (.cond 10 ((.seq (.reg [⟨[], [], .cs .v (.b false)⟩] [none, none, none, none, some 12, none, none, none, none, none, none, none])
  (.ret))) (.skip))))
 ((.seq ((.seq (.reg [⟨[], [], .fp false (.e 2) 6⟩, ⟨[], [], .nop⟩, ⟨[], [], .fp false (.e 3) 6⟩, ⟨[], [], .nop⟩, ⟨[], [], .ca 155 [(.e 12), (.e 13)] 1⟩, ⟨[], [], .un .not (.e 14)⟩] [none, none, none, none, none, none, none, none, none, none, none, some 15])
 (.cond 11 ((.seq (.reg [⟨[], [], .cs .v (.b false)⟩] [none, none, none, none, some 12, none, none, none, none, none, none, none])
  (.ret))) (.skip))))
 ((.seq (.reg [⟨[], [], .cs .v (.b true)⟩] [none, none, none, none, some 12, none, none, none, none, none, none, none])
 (.ret))))))))))))))))))⟩

/-- loop.example/g03401/laws.eqIntS -/
def ir_laws_eqIntS : IF := ⟨[], 2, 7, [2],
 (.seq (.reg [⟨[], [], .cs .v (.b false)⟩] [some 0, some 1, none, none, none, none, none])
 ((.seq ((.seq (.reg [⟨[], [], .nop⟩, ⟨[], [], .ln (.e 0) []⟩, ⟨[], [], .nop⟩, ⟨[], [], .ln (.e 1) []⟩, ⟨[], [], .bi .neq (.e 7) (.e 8)⟩] [some 0, some 1, none, none, some 9, none, none])
 (.cond 4 ((.seq (.reg [⟨[], [], .cs .v (.b false)⟩] [none, none, some 7, none, none, none, none])
  (.ret))) (.skip))))
 ((.seq ((.seq (.reg [⟨[], [], .cs .v (.n 0)⟩] [some 0, some 1, none, some 7, none, none, none])
 (.block 0 (.loop ((.seq ((.seq (.reg [⟨[], [], .nop⟩, ⟨[], [], .nop⟩, ⟨[], [], .ln (.e 0) []⟩, ⟨[], [], .bi .lss (.e 3) (.e 7)⟩] [some 0, some 1, none, some 3, none, some 8, none])
   (.cond 5 (.skip) (.exit 0))))
   ((.seq (.block 1 ((.seq (.reg [⟨[], [], .nop⟩, ⟨[], [], .nop⟩, ⟨[], [], .iy (.e 0) (.e 3)⟩, ⟨[], [], .nop⟩, ⟨[], [], .nop⟩, ⟨[], [], .nop⟩, ⟨[], [], .iy (.e 1) (.e 3)⟩, ⟨[], [], .nop⟩, ⟨[], [], .bi .neq (.e 7) (.e 8)⟩] [some 0, some 1, none, some 3, none, none, some 9])
    (.cond 6 ((.seq (.reg [⟨[], [], .cs .v (.b false)⟩] [none, none, some 7, none, none, none, none])
     (.ret))) (.skip)))))
   (.reg [⟨[], [], .nop⟩, ⟨[], [], .bi .add (.e 3) (.c (.n 1))⟩, ⟨[], [], .nop⟩] [some 0, some 1, none, some 7, none, none, none])))))))))
 ((.seq (.reg [⟨[], [], .cs .v (.b true)⟩] [none, none, some 7, none, none, none, none])
 (.ret))))))))⟩

/-- loop.example/g03401/laws.eqIntSS -/
def ir_laws_eqIntSS : IF := ⟨[], 2, 7, [2],
 (.seq (.reg [⟨[], [], .cs .v (.b false)⟩] [some 0, some 1, none, none, none, none, none])
 ((.seq ((.seq (.reg [⟨[], [], .nop⟩, ⟨[], [], .ln (.e 0) []⟩, ⟨[], [], .nop⟩, ⟨[], [], .ln (.e 1) []⟩, ⟨[], [], .bi .neq (.e 7) (.e 8)⟩] [some 0, some 1, none, none, some 9, none, none])
 (.cond 4 ((.seq (.reg [⟨[], [], .cs .v (.b false)⟩] [none, none, some 7, none, none, none, none])
  (.ret))) (.skip))))
 ((.seq ((.seq (.reg [⟨[], [], .cs .v (.n 0)⟩] [some 0, some 1, none, some 7, none, none, none])
 (.block 0 (.loop ((.seq ((.seq (.reg [⟨[], [], .nop⟩, ⟨[], [], .nop⟩, ⟨[], [], .ln (.e 0) []⟩, ⟨[], [], .bi .lss (.e 3) (.e 7)⟩] [some 0, some 1, none, some 3, none, some 8, none])
   (.cond 5 (.skip) (.exit 0))))
   ((.seq (.block 1 ((.seq (.reg [⟨[], [], .nop⟩, ⟨[], [], .nop⟩, ⟨[], [], .ix (.e 0) [] (.e 3)⟩, ⟨[], [], .nop⟩, ⟨[], [], .nop⟩, ⟨[], [], .nop⟩, ⟨[], [], .ix (.e 1) [] (.e 3)⟩, ⟨[], [], .nop⟩, ⟨[], [], .ca 44 [(.e 7), (.e 8)] 1⟩, ⟨[], [], .un .not (.e 9)⟩] [some 0, some 1, none, some 3, none, none, some 10])
    (.cond 6 ((.seq (.reg [⟨[], [], .cs .v (.b false)⟩] [none, none, some 7, none, none, none, none])
     (.ret))) (.skip)))))
   (.reg [⟨[], [], .nop⟩, ⟨[], [], .bi .add (.e 3) (.c (.n 1))⟩, ⟨[], [], .nop⟩] [some 0, some 1, none, some 7, none, none, none])))))))))
 ((.seq (.reg [⟨[], [], .cs .v (.b true)⟩] [none, none, some 7, none, none, none, none])
 (.ret))))))))⟩

/-- loop.example/g03401/laws.eqStringS -/
def ir_laws_eqStringS : IF := ⟨[], 2, 7, [2],
 (.seq (.reg [⟨[], [], .cs .v (.b false)⟩] [some 0, some 1, none, none, none, none, none])
 ((.seq ((.seq (.reg [⟨[], [], .nop⟩, ⟨[], [], .ln (.e 0) []⟩, ⟨[], [], .nop⟩, ⟨[], [], .ln (.e 1) []⟩, ⟨[], [], .bi .neq (.e 7) (.e 8)⟩] [some 0, some 1, none, none, some 9, none, none])
 (.cond 4 ((.seq (.reg [⟨[], [], .cs .v (.b false)⟩] [none, none, some 7, none, none, none, none])
  (.ret))) (.skip))))
 ((.seq ((.seq (.reg [⟨[], [], .cs .v (.n 0)⟩] [some 0, some 1, none, some 7, none, none, none])
 (.block 0 (.loop ((.seq ((.seq (.reg [⟨[], [], .nop⟩, ⟨[], [], .nop⟩, ⟨[], [], .ln (.e 0) []⟩, ⟨[], [], .bi .lss (.e 3) (.e 7)⟩] [some 0, some 1, none, some 3, none, some 8, none])
   (.cond 5 (.skip) (.exit 0))))
   ((.seq (.block 1 ((.seq (.reg [⟨[], [], .nop⟩, ⟨[], [], .nop⟩, ⟨[], [], .iy (.e 0) (.e 3)⟩, ⟨[], [], .nop⟩, ⟨[], [], .nop⟩, ⟨[], [], .nop⟩, ⟨[], [], .iy (.e 1) (.e 3)⟩, ⟨[], [], .nop⟩, ⟨[], [], .bi .neq (.e 7) (.e 8)⟩] [some 0, some 1, none, some 3, none, none, some 9])
    (.cond 6 ((.seq (.reg [⟨[], [], .cs .v (.b false)⟩] [none, none, some 7, none, none, none, none])
     (.ret))) (.skip)))))
   (.reg [⟨[], [], .nop⟩, ⟨[], [], .bi .add (.e 3) (.c (.n 1))⟩, ⟨[], [], .nop⟩] [some 0, some 1, none, some 7, none, none, none])))))))))
 ((.seq (.reg [⟨[], [], .cs .v (.b true)⟩] [none, none, some 7, none, none, none, none])
 (.ret))))))))⟩

/-- loop.example/g03401/laws.heldClaim -/
def ir_laws_heldClaim : IF := ⟨[], 2, 8, [3],
 (.seq (.reg [⟨[], [], .bp (.e 0)⟩, ⟨[], [], .cs .v (.n 0)⟩] [none, some 1, some 8, none, none, none, none, none])
 ((.seq (.reg [⟨[], [], .fp false (.e 2) 3⟩, ⟨[], [], .nop⟩, ⟨[], [], .nop⟩, ⟨[], [], .ca 17 [(.e 8), (.e 1)] 1⟩, ⟨[], [], .nop⟩] [none, some 9, some 2, none, none, none, none, none])
 ((.seq ((.seq (.reg [⟨[], [], .nop⟩, ⟨[], [], .bi .lss (.e 1) (.c (.n 0))⟩] [none, some 1, some 2, none, some 8, none, none, none])
 (.cond 4 ((.seq (.reg [⟨[], [], .cs .v (.n (-1))⟩] [none, none, none, some 8, none, none, none, none])
  (.ret))) (.skip))))
 ((.seq (.reg [⟨[], [], .fp false (.e 2) 4⟩, ⟨[], [], .nop⟩, ⟨[], [], .nop⟩, ⟨[], [], .ca 46 [(.e 8), (.e 1)] 1⟩, ⟨[], [], .nop⟩] [none, some 9, some 2, none, none, none, none, none])
 ((.seq ((.seq (.reg [⟨[], [], .nop⟩, ⟨[], [], .bi .lss (.e 1) (.c (.n 0))⟩] [none, some 1, some 2, none, none, some 8, none, none])
 (.cond 5 ((.seq (.reg [⟨[], [], .cs .v (.n (-1))⟩] [none, none, none, some 8, none, none, none, none])
  (.ret))) (.skip))))
 ((.seq (.reg [⟨[], [], .fp false (.e 2) 5⟩, ⟨[], [], .nop⟩, ⟨[], [], .nop⟩, ⟨[], [], .ca 46 [(.e 8), (.e 1)] 1⟩, ⟨[], [], .nop⟩] [none, some 9, some 2, none, none, none, none, none])
 ((.seq ((.seq (.reg [⟨[], [], .nop⟩, ⟨[], [], .bi .lss (.e 1) (.c (.n 0))⟩] [none, some 1, some 2, none, none, none, some 8, none])
 (.cond 6 ((.seq (.reg [⟨[], [], .cs .v (.n (-1))⟩] [none, none, none, some 8, none, none, none, none])
  (.ret))) (.skip))))
 ((.seq (.reg [⟨[], [], .fp false (.e 2) 6⟩, ⟨[], [], .nop⟩, ⟨[], [], .nop⟩, ⟨[], [], .ca 159 [(.e 8), (.e 1)] 1⟩, ⟨[], [], .nop⟩] [none, some 9, none, none, none, none, none, none])
 ((.seq ((.seq (.reg [⟨[], [], .nop⟩, ⟨[], [], .bi .lss (.e 1) (.c (.n 0))⟩] [none, some 1, none, none, none, none, none, some 8])
 (.cond 7 ((.seq (.reg [⟨[], [], .cs .v (.n (-1))⟩] [none, none, none, some 8, none, none, none, none])
  (.ret))) (.skip))))
 ((.seq (.reg [⟨[], [], .nop⟩, ⟨[], [], .nop⟩] [none, none, none, some 1, none, none, none, none])
 (.ret))))))))))))))))))))⟩

/-- loop.example/g03401/laws.heldIntS -/
def ir_laws_heldIntS : IF := ⟨[], 2, 6, [2],
 (.seq (.reg [⟨[], [], .cs .v (.n 0)⟩] [some 0, some 1, none, none, none, none])
 ((.seq ((.seq (.reg [⟨[], [], .cs .v (.n 0)⟩] [some 0, some 1, none, some 6, none, none])
 (.block 0 (.loop ((.seq ((.seq (.reg [⟨[], [], .nop⟩, ⟨[], [], .nop⟩, ⟨[], [], .ln (.e 0) []⟩, ⟨[], [], .bi .lss (.e 3) (.e 6)⟩] [some 0, some 1, none, some 3, some 7, none])
   (.cond 4 (.skip) (.exit 0))))
   ((.seq (.block 1 ((.seq ((.seq (.reg [⟨[], [], .nop⟩, ⟨[], [], .nop⟩, ⟨[], [], .iy (.e 0) (.e 3)⟩, ⟨[], [], .nop⟩, ⟨[], [], .nop⟩, ⟨[], [], .bi .neq (.e 6) (.e 1)⟩] [some 0, some 1, none, some 3, none, some 7])
    (.cond 5 ((.seq (.reg [⟨[], [], .cs .v (.n (-1))⟩] [none, none, some 6, none, none, none])
     (.ret))) (.skip))))
    (.reg [⟨[], [], .nop⟩, ⟨[], [], .bi .add (.e 1) (.c (.n 1))⟩, ⟨[], [], .nop⟩] [some 0, some 6, none, some 3, none, none]))))
   (.reg [⟨[], [], .nop⟩, ⟨[], [], .bi .add (.e 3) (.c (.n 1))⟩, ⟨[], [], .nop⟩] [some 0, some 1, none, some 6, none, none])))))))))
 ((.seq (.reg [⟨[], [], .nop⟩, ⟨[], [], .nop⟩] [none, none, some 1, none, none, none])
 (.ret))))))⟩

/-- loop.example/g03401/laws.heldIntSS -/
def ir_laws_heldIntSS : IF := ⟨[], 2, 6, [2],
 (.seq (.reg [⟨[], [], .cs .v (.n 0)⟩] [some 0, some 1, none, none, none, none])
 ((.seq ((.seq (.reg [⟨[], [], .cs .v (.n 0)⟩] [some 0, some 1, none, some 6, none, none])
 (.block 0 (.loop ((.seq ((.seq (.reg [⟨[], [], .nop⟩, ⟨[], [], .nop⟩, ⟨[], [], .ln (.e 0) []⟩, ⟨[], [], .bi .lss (.e 3) (.e 6)⟩] [some 0, some 1, none, some 3, some 7, none])
   (.cond 4 (.skip) (.exit 0))))
   ((.seq (.block 1 ((.seq (.reg [⟨[], [], .nop⟩, ⟨[], [], .nop⟩, ⟨[], [], .ix (.e 0) [] (.e 3)⟩, ⟨[], [], .nop⟩, ⟨[], [], .nop⟩, ⟨[], [], .ca 46 [(.e 6), (.e 1)] 1⟩, ⟨[], [], .nop⟩] [some 0, some 7, none, some 3, none, none])
    ((.seq (.reg [⟨[], [], .nop⟩, ⟨[], [], .bi .lss (.e 1) (.c (.n 0))⟩] [some 0, some 1, none, some 3, none, some 6])
    (.cond 5 ((.seq (.reg [⟨[], [], .cs .v (.n (-1))⟩] [none, none, some 6, none, none, none])
     (.ret))) (.skip)))))))
   (.reg [⟨[], [], .nop⟩, ⟨[], [], .bi .add (.e 3) (.c (.n 1))⟩, ⟨[], [], .nop⟩] [some 0, some 1, none, some 6, none, none])))))))))
 ((.seq (.reg [⟨[], [], .nop⟩, ⟨[], [], .nop⟩] [none, none, some 1, none, none, none])
 (.ret))))))⟩

/-- loop.example/g03401/laws.heldStringS -/
def ir_laws_heldStringS : IF := ⟨[], 2, 6, [2],
 (.seq (.reg [⟨[], [], .cs .v (.n 0)⟩] [some 0, some 1, none, none, none, none])
 ((.seq ((.seq (.reg [⟨[], [], .cs .v (.n 0)⟩] [some 0, some 1, none, some 6, none, none])
 (.block 0 (.loop ((.seq ((.seq (.reg [⟨[], [], .nop⟩, ⟨[], [], .nop⟩, ⟨[], [], .ln (.e 0) []⟩, ⟨[], [], .bi .lss (.e 3) (.e 6)⟩] [some 0, some 1, none, some 3, some 7, none])
   (.cond 4 (.skip) (.exit 0))))
   ((.seq (.block 1 ((.seq ((.seq (.reg [⟨[], [], .nop⟩, ⟨[], [], .nop⟩, ⟨[], [], .iy (.e 0) (.e 3)⟩, ⟨[], [], .nop⟩, ⟨[], [], .nop⟩, ⟨[], [], .ca 26 [(.e 1)] 1⟩, ⟨[], [], .bi .neq (.e 6) (.e 7)⟩] [some 0, some 1, none, some 3, none, some 8])
    (.cond 5 ((.seq (.reg [⟨[], [], .cs .v (.n (-1))⟩] [none, none, some 6, none, none, none])
     (.ret))) (.skip))))
    (.reg [⟨[], [], .nop⟩, ⟨[], [], .bi .add (.e 1) (.c (.n 1))⟩, ⟨[], [], .nop⟩] [some 0, some 6, none, some 3, none, none]))))
   (.reg [⟨[], [], .nop⟩, ⟨[], [], .bi .add (.e 3) (.c (.n 1))⟩, ⟨[], [], .nop⟩] [some 0, some 1, none, some 6, none, none])))))))))
 ((.seq (.reg [⟨[], [], .nop⟩, ⟨[], [], .nop⟩] [none, none, some 1, none, none, none])
 (.ret))))))⟩

/-- loop.example/g03401/laws.markIntS -/
def ir_laws_markIntS : IF := ⟨[], 2, 5, [2, 0],
 (.seq (.reg [⟨[], [], .cs .v (.n 0)⟩] [some 0, some 1, none, none, none])
 ((.seq ((.seq (.reg [⟨[], [], .cs .v (.n 0)⟩] [some 0, some 1, none, some 5, none])
 (.block 0 (.loop ((.seq ((.seq (.reg [⟨[], [], .nop⟩, ⟨[], [], .nop⟩, ⟨[], [], .ln (.e 0) []⟩, ⟨[], [], .bi .lss (.e 3) (.e 5)⟩] [some 0, some 1, none, some 3, some 6])
   (.cond 4 (.skip) (.exit 0))))
   ((.seq (.block 1 ((.seq (.reg [⟨[], [], .nop⟩, ⟨[], [], .nop⟩, ⟨[], [], .nop⟩, ⟨[], [], .ix (.e 0) [] (.e 3)⟩, ⟨[], [], .up 0 [.e 3] (.e 1)⟩] [some 6, some 1, none, some 3, none])
    (.reg [⟨[], [], .nop⟩, ⟨[], [], .bi .add (.e 1) (.c (.n 1))⟩, ⟨[], [], .nop⟩] [some 0, some 5, none, some 3, none]))))
   (.reg [⟨[], [], .nop⟩, ⟨[], [], .bi .add (.e 3) (.c (.n 1))⟩, ⟨[], [], .nop⟩] [some 0, some 1, none, some 5, none])))))))))
 ((.seq (.reg [⟨[], [], .nop⟩, ⟨[], [], .nop⟩] [some 0, none, some 1, none, none])
 (.ret))))))⟩

/-- loop.example/g03401/laws.markStringS -/
def ir_laws_markStringS : IF := ⟨[], 2, 5, [2, 0],
 (.seq (.reg [⟨[], [], .cs .v (.n 0)⟩] [some 0, some 1, none, none, none])
 ((.seq ((.seq (.reg [⟨[], [], .cs .v (.n 0)⟩] [some 0, some 1, none, some 5, none])
 (.block 0 (.loop ((.seq ((.seq (.reg [⟨[], [], .nop⟩, ⟨[], [], .nop⟩, ⟨[], [], .ln (.e 0) []⟩, ⟨[], [], .bi .lss (.e 3) (.e 5)⟩] [some 0, some 1, none, some 3, some 6])
   (.cond 4 (.skip) (.exit 0))))
   ((.seq (.block 1 ((.seq (.reg [⟨[], [], .nop⟩, ⟨[], [], .nop⟩, ⟨[], [], .nop⟩, ⟨[], [], .ca 26 [(.e 1)] 1⟩, ⟨[], [], .ix (.e 0) [] (.e 3)⟩, ⟨[], [], .up 0 [.e 3] (.e 5)⟩] [some 7, some 1, none, some 3, none])
    (.reg [⟨[], [], .nop⟩, ⟨[], [], .bi .add (.e 1) (.c (.n 1))⟩, ⟨[], [], .nop⟩] [some 0, some 5, none, some 3, none]))))
   (.reg [⟨[], [], .nop⟩, ⟨[], [], .bi .add (.e 3) (.c (.n 1))⟩, ⟨[], [], .nop⟩] [some 0, some 1, none, some 5, none])))))))))
 ((.seq (.reg [⟨[], [], .nop⟩, ⟨[], [], .nop⟩] [some 0, none, some 1, none, none])
 (.ret))))))⟩

/-- loop.example/g03401/laws.markText -/
def ir_laws_markText : IF := ⟨[], 1, 5, [1],
 (.seq (.reg [⟨[], [], .cs .v (.s [])⟩] [some 0, none, none, none, none])
 ((.seq ((.seq (.reg [⟨[], [], .nop⟩, ⟨[], [], .bi .leq (.e 0) (.c (.n 0))⟩] [some 0, none, none, some 5, none])
 (.cond 3 ((.seq (.reg [⟨[], [], .cs .v (.s [109, 48])⟩] [none, some 5, none, none, none])
  (.ret))) (.skip))))
 ((.seq (.reg [⟨[], [], .cs .v (.s [])⟩] [some 0, none, some 5, none, none])
 ((.seq (.block 0 (.loop ((.seq ((.seq (.reg [⟨[], [], .nop⟩, ⟨[], [], .bi .gtr (.e 0) (.c (.n 0))⟩] [some 0, none, some 2, none, some 5])
   (.cond 4 (.skip) (.exit 0))))
   (.block 1 ((.seq (.reg [⟨[], [], .nop⟩, ⟨[], [], .bi .rem (.e 0) (.c (.n 10))⟩, ⟨[], [], .bi .add (.c (.n 48)) (.e 5)⟩, ⟨[], [], .cv .u8 (.e 6)⟩, ⟨[], [], .li (.o .v) [(.e 7)]⟩, ⟨[], [], .bs (.e 8)⟩, ⟨[], [], .nop⟩, ⟨[], [], .bi .add (.e 9) (.e 2)⟩, ⟨[], [], .nop⟩] [some 0, none, some 10, none, none])
    (.reg [⟨[], [], .nop⟩, ⟨[], [], .bi .quo (.e 0) (.c (.n 10))⟩, ⟨[], [], .nop⟩] [some 5, none, some 2, none, none]))))))))
 ((.seq (.reg [⟨[], [], .nop⟩, ⟨[], [], .bi .add (.c (.s [109])) (.e 2)⟩, ⟨[], [], .nop⟩] [none, some 5, none, none, none])
 (.ret))))))))))⟩

/-- loop.example/g03401/laws.sameInts -/
def ir_laws_sameInts : IF := ⟨[], 2, 7, [2],
 (.seq (.reg [⟨[], [], .cs .v (.b false)⟩] [some 0, some 1, none, none, none, none, none])
 ((.seq ((.seq (.reg [⟨[], [], .nop⟩, ⟨[], [], .ln (.e 0) []⟩, ⟨[], [], .nop⟩, ⟨[], [], .ln (.e 1) []⟩, ⟨[], [], .bi .neq (.e 7) (.e 8)⟩] [some 0, some 1, none, none, some 9, none, none])
 (.cond 4 ((.seq (.reg [⟨[], [], .cs .v (.b false)⟩] [none, none, some 7, none, none, none, none])
  (.ret))) (.skip))))
 ((.seq ((.seq (.reg [⟨[], [], .cs .v (.n 0)⟩] [some 0, some 1, none, some 7, none, none, none])
 (.block 0 (.loop ((.seq ((.seq (.reg [⟨[], [], .nop⟩, ⟨[], [], .nop⟩, ⟨[], [], .ln (.e 0) []⟩, ⟨[], [], .bi .lss (.e 3) (.e 7)⟩] [some 0, some 1, none, some 3, none, some 8, none])
   (.cond 5 (.skip) (.exit 0))))
   ((.seq (.block 1 ((.seq (.reg [⟨[], [], .nop⟩, ⟨[], [], .nop⟩, ⟨[], [], .iy (.e 0) (.e 3)⟩, ⟨[], [], .nop⟩, ⟨[], [], .nop⟩, ⟨[], [], .nop⟩, ⟨[], [], .iy (.e 1) (.e 3)⟩, ⟨[], [], .nop⟩, ⟨[], [], .bi .neq (.e 7) (.e 8)⟩] [some 0, some 1, none, some 3, none, none, some 9])
    (.cond 6 ((.seq (.reg [⟨[], [], .cs .v (.b false)⟩] [none, none, some 7, none, none, none, none])
     (.ret))) (.skip)))))
   (.reg [⟨[], [], .nop⟩, ⟨[], [], .bi .add (.e 3) (.c (.n 1))⟩, ⟨[], [], .nop⟩] [some 0, some 1, none, some 7, none, none, none])))))))))
 ((.seq (.reg [⟨[], [], .cs .v (.b true)⟩] [none, none, some 7, none, none, none, none])
 (.ret))))))))⟩

/-- loop.example/g03401/laws.sameWords -/
def ir_laws_sameWords : IF := ⟨[], 2, 7, [2],
 (.seq (.reg [⟨[], [], .cs .v (.b false)⟩] [some 0, some 1, none, none, none, none, none])
 ((.seq ((.seq (.reg [⟨[], [], .nop⟩, ⟨[], [], .ln (.e 0) []⟩, ⟨[], [], .nop⟩, ⟨[], [], .ln (.e 1) []⟩, ⟨[], [], .bi .neq (.e 7) (.e 8)⟩] [some 0, some 1, none, none, some 9, none, none])
 (.cond 4 ((.seq (.reg [⟨[], [], .cs .v (.b false)⟩] [none, none, some 7, none, none, none, none])
  (.ret))) (.skip))))
 ((.seq ((.seq (.reg [⟨[], [], .cs .v (.n 0)⟩] [some 0, some 1, none, some 7, none, none, none])
 (.block 0 (.loop ((.seq ((.seq (.reg [⟨[], [], .nop⟩, ⟨[], [], .nop⟩, ⟨[], [], .ln (.e 0) []⟩, ⟨[], [], .bi .lss (.e 3) (.e 7)⟩] [some 0, some 1, none, some 3, none, some 8, none])
   (.cond 5 (.skip) (.exit 0))))
   ((.seq (.block 1 ((.seq (.reg [⟨[], [], .nop⟩, ⟨[], [], .nop⟩, ⟨[], [], .iy (.e 0) (.e 3)⟩, ⟨[], [], .nop⟩, ⟨[], [], .nop⟩, ⟨[], [], .nop⟩, ⟨[], [], .iy (.e 1) (.e 3)⟩, ⟨[], [], .nop⟩, ⟨[], [], .bi .neq (.e 7) (.e 8)⟩] [some 0, some 1, none, some 3, none, none, some 9])
    (.cond 6 ((.seq (.reg [⟨[], [], .cs .v (.b false)⟩] [none, none, some 7, none, none, none, none])
     (.ret))) (.skip)))))
   (.reg [⟨[], [], .nop⟩, ⟨[], [], .bi .add (.e 3) (.c (.n 1))⟩, ⟨[], [], .nop⟩] [some 0, some 1, none, some 7, none, none, none])))))))))
 ((.seq (.reg [⟨[], [], .cs .v (.b true)⟩] [none, none, some 7, none, none, none, none])
 (.ret))))))))⟩

/-- loop.example/g03401/laws.szClaim -/
def ir_laws_szClaim : IF := ⟨[], 2, 10, [3],
 (.seq (.reg [⟨[], [], .bp (.e 0)⟩, ⟨[], [], .cs .v (.n 0)⟩] [none, some 1, some 10, none, none, none, none, none, none, none])
 ((.seq (.reg [⟨[], [], .nop⟩, ⟨[], [], .fp true (.e 2) 1⟩, ⟨[], [], .nop⟩, ⟨[], [], .sn (.e 10)⟩, ⟨[], [], .bi .sub (.e 1) (.e 11)⟩, ⟨[], [], .nop⟩] [none, some 12, some 2, none, none, none, none, none, none, none])
 ((.seq ((.seq (.reg [⟨[], [], .nop⟩, ⟨[], [], .bi .lss (.e 1) (.c (.n 0))⟩] [none, some 1, some 2, none, some 10, none, none, none, none, none])
 (.cond 4 ((.seq (.reg [⟨[], [], .cs .v (.n (-1))⟩] [none, none, none, some 10, none, none, none, none, none, none])
  (.ret))) (.skip))))
 ((.seq (.reg [⟨[], [], .nop⟩, ⟨[], [], .fp true (.e 2) 2⟩, ⟨[], [], .nop⟩, ⟨[], [], .sn (.e 10)⟩, ⟨[], [], .bi .sub (.e 1) (.e 11)⟩, ⟨[], [], .nop⟩] [none, some 12, some 2, none, none, none, none, none, none, none])
 ((.seq ((.seq (.reg [⟨[], [], .nop⟩, ⟨[], [], .bi .lss (.e 1) (.c (.n 0))⟩] [none, some 1, some 2, none, none, some 10, none, none, none, none])
 (.cond 5 ((.seq (.reg [⟨[], [], .cs .v (.n (-1))⟩] [none, none, none, some 10, none, none, none, none, none, none])
  (.ret))) (.skip))))
 ((.seq (.reg [⟨[], [], .fp false (.e 2) 3⟩, ⟨[], [], .nop⟩, ⟨[], [], .nop⟩, ⟨[], [], .ca 145 [(.e 10), (.e 1)] 1⟩, ⟨[], [], .nop⟩] [none, some 11, some 2, none, none, none, none, none, none, none])
 ((.seq ((.seq (.reg [⟨[], [], .nop⟩, ⟨[], [], .bi .lss (.e 1) (.c (.n 0))⟩] [none, some 1, some 2, none, none, none, some 10, none, none, none])
 (.cond 6 ((.seq (.reg [⟨[], [], .cs .v (.n (-1))⟩] [none, none, none, some 10, none, none, none, none, none, none])
  (.ret))) (.skip))))
 ((.seq (.reg [⟨[], [], .fp false (.e 2) 4⟩, ⟨[], [], .nop⟩, ⟨[], [], .nop⟩, ⟨[], [], .ca 146 [(.e 10), (.e 1)] 1⟩, ⟨[], [], .nop⟩] [none, some 11, some 2, none, none, none, none, none, none, none])
 ((.seq ((.seq (.reg [⟨[], [], .nop⟩, ⟨[], [], .bi .lss (.e 1) (.c (.n 0))⟩] [none, some 1, some 2, none, none, none, none, some 10, none, none])
 (.cond 7 ((.seq (.reg [⟨[], [], .cs .v (.n (-1))⟩] [none, none, none, some 10, none, none, none, none, none, none])
  (.ret))) (.skip))))
 ((.seq (.reg [⟨[], [], .fp false (.e 2) 5⟩, ⟨[], [], .nop⟩, ⟨[], [], .nop⟩, ⟨[], [], .ca 146 [(.e 10), (.e 1)] 1⟩, ⟨[], [], .nop⟩] [none, some 11, some 2, none, none, none, none, none, none, none])
 ((.seq ((.seq (.reg [⟨[], [], .nop⟩, ⟨[], [], .bi .lss (.e 1) (.c (.n 0))⟩] [none, some 1, some 2, none, none, none, none, none, some 10, none])
 (.cond 8 ((.seq (.reg [⟨[], [], .cs .v (.n (-1))⟩] [none, none, none, some 10, none, none, none, none, none, none])
  (.ret))) (.skip))))
 ((.seq (.reg [⟨[], [], .fp false (.e 2) 6⟩, ⟨[], [], .nop⟩, ⟨[], [], .nop⟩, ⟨[], [], .ca 147 [(.e 10), (.e 1)] 1⟩, ⟨[], [], .nop⟩] [none, some 11, none, none, none, none, none, none, none, none])
 ((.seq ((.seq (.reg [⟨[], [], .nop⟩, ⟨[], [], .bi .lss (.e 1) (.c (.n 0))⟩] [none, some 1, none, none, none, none, none, none, none, some 10])
 (.cond 9 ((.seq (.reg [⟨[], [], .cs .v (.n (-1))⟩] [none, none, none, some 10, none, none, none, none, none, none])
  (.ret))) (.skip))))
 ((.seq (.reg [⟨[], [], .nop⟩, ⟨[], [], .nop⟩] [none, none, none, some 1, none, none, none, none, none, none])
 (.ret))))))))))))))))))))))))))))⟩

/-- loop.example/g03401/laws.szIntS -/
def ir_laws_szIntS : IF := ⟨[], 2, 4, [2],
 (.seq (.reg [⟨[], [], .cs .v (.n 0)⟩] [some 0, some 1, none, none])
 ((.seq (.reg [⟨[], [], .nop⟩, ⟨[], [], .nop⟩, ⟨[], [], .ln (.e 0) []⟩, ⟨[], [], .bi .sub (.e 1) (.e 4)⟩, ⟨[], [], .nop⟩] [none, some 5, none, none])
 ((.seq ((.seq (.reg [⟨[], [], .nop⟩, ⟨[], [], .bi .lss (.e 1) (.c (.n 0))⟩] [none, some 1, none, some 4])
 (.cond 3 ((.seq (.reg [⟨[], [], .cs .v (.n (-1))⟩] [none, none, some 4, none])
  (.ret))) (.skip))))
 ((.seq (.reg [⟨[], [], .nop⟩, ⟨[], [], .nop⟩] [none, none, some 1, none])
 (.ret))))))))⟩

/-- loop.example/g03401/laws.szIntSS -/
def ir_laws_szIntSS : IF := ⟨[], 2, 7, [2],
 (.seq (.reg [⟨[], [], .cs .v (.n 0)⟩] [some 0, some 1, none, none, none, none, none])
 ((.seq (.reg [⟨[], [], .nop⟩, ⟨[], [], .nop⟩, ⟨[], [], .ln (.e 0) []⟩, ⟨[], [], .bi .sub (.e 1) (.e 7)⟩, ⟨[], [], .nop⟩] [some 0, some 8, none, none, none, none, none])
 ((.seq ((.seq (.reg [⟨[], [], .nop⟩, ⟨[], [], .bi .lss (.e 1) (.c (.n 0))⟩] [some 0, some 1, none, none, some 7, none, none])
 (.cond 4 ((.seq (.reg [⟨[], [], .cs .v (.n (-1))⟩] [none, none, some 7, none, none, none, none])
  (.ret))) (.skip))))
 ((.seq ((.seq (.reg [⟨[], [], .cs .v (.n 0)⟩] [some 0, some 1, none, some 7, none, none, none])
 (.block 0 (.loop ((.seq ((.seq (.reg [⟨[], [], .nop⟩, ⟨[], [], .nop⟩, ⟨[], [], .ln (.e 0) []⟩, ⟨[], [], .bi .lss (.e 3) (.e 7)⟩] [some 0, some 1, none, some 3, none, some 8, none])
   (.cond 5 (.skip) (.exit 0))))
   ((.seq (.block 1 ((.seq (.reg [⟨[], [], .nop⟩, ⟨[], [], .nop⟩, ⟨[], [], .ix (.e 0) [] (.e 3)⟩, ⟨[], [], .nop⟩, ⟨[], [], .nop⟩, ⟨[], [], .ca 146 [(.e 7), (.e 1)] 1⟩, ⟨[], [], .nop⟩] [some 0, some 8, none, some 3, none, none, none])
    ((.seq (.reg [⟨[], [], .nop⟩, ⟨[], [], .bi .lss (.e 1) (.c (.n 0))⟩] [some 0, some 1, none, some 3, none, none, some 7])
    (.cond 6 ((.seq (.reg [⟨[], [], .cs .v (.n (-1))⟩] [none, none, some 7, none, none, none, none])
     (.ret))) (.skip)))))))
   (.reg [⟨[], [], .nop⟩, ⟨[], [], .bi .add (.e 3) (.c (.n 1))⟩, ⟨[], [], .nop⟩] [some 0, some 1, none, some 7, none, none, none])))))))))
 ((.seq (.reg [⟨[], [], .nop⟩, ⟨[], [], .nop⟩] [none, none, some 1, none, none, none, none])
 (.ret))))))))))⟩

/-- loop.example/g03401/laws.szStringS -/
def ir_laws_szStringS : IF := ⟨[], 2, 7, [2],
 (.seq (.reg [⟨[], [], .cs .v (.n 0)⟩] [some 0, some 1, none, none, none, none, none])
 ((.seq (.reg [⟨[], [], .nop⟩, ⟨[], [], .nop⟩, ⟨[], [], .ln (.e 0) []⟩, ⟨[], [], .bi .sub (.e 1) (.e 7)⟩, ⟨[], [], .nop⟩] [some 0, some 8, none, none, none, none, none])
 ((.seq ((.seq (.reg [⟨[], [], .nop⟩, ⟨[], [], .bi .lss (.e 1) (.c (.n 0))⟩] [some 0, some 1, none, none, some 7, none, none])
 (.cond 4 ((.seq (.reg [⟨[], [], .cs .v (.n (-1))⟩] [none, none, some 7, none, none, none, none])
  (.ret))) (.skip))))
 ((.seq ((.seq (.reg [⟨[], [], .cs .v (.n 0)⟩] [some 0, some 1, none, some 7, none, none, none])
 (.block 0 (.loop ((.seq ((.seq (.reg [⟨[], [], .nop⟩, ⟨[], [], .nop⟩, ⟨[], [], .ln (.e 0) []⟩, ⟨[], [], .bi .lss (.e 3) (.e 7)⟩] [some 0, some 1, none, some 3, none, some 8, none])
   (.cond 5 (.skip) (.exit 0))))
   ((.seq (.block 1 ((.seq (.reg [⟨[], [], .nop⟩, ⟨[], [], .nop⟩, ⟨[], [], .nop⟩, ⟨[], [], .iy (.e 0) (.e 3)⟩, ⟨[], [], .nop⟩, ⟨[], [], .sn (.e 7)⟩, ⟨[], [], .bi .sub (.e 1) (.e 8)⟩, ⟨[], [], .nop⟩] [some 0, some 9, none, some 3, none, none, none])
    ((.seq (.reg [⟨[], [], .nop⟩, ⟨[], [], .bi .lss (.e 1) (.c (.n 0))⟩] [some 0, some 1, none, some 3, none, none, some 7])
    (.cond 6 ((.seq (.reg [⟨[], [], .cs .v (.n (-1))⟩] [none, none, some 7, none, none, none, none])
     (.ret))) (.skip)))))))
   (.reg [⟨[], [], .nop⟩, ⟨[], [], .bi .add (.e 3) (.c (.n 1))⟩, ⟨[], [], .nop⟩] [some 0, some 1, none, some 7, none, none, none])))))))))
 ((.seq (.reg [⟨[], [], .nop⟩, ⟨[], [], .nop⟩] [none, none, some 1, none, none, none, none])
 (.ret))))))))))⟩

/-- loop.example/g03401/laws.toClaim -/
def ir_laws_toClaim : IF := ⟨[(0, 7)], 1, 4, [2],
 (.seq (.reg [⟨[], [], .bp (.e 0)⟩, ⟨[], [], .cs (.b (.o (.o (.o .v)))) (.g [(.n 0), (.s []), (.s []), (.l []), (.l []), (.l []), (.l [])])⟩] [none, some 4, some 5, none])
 ((.seq (.reg [⟨[], [], .cs (.b (.o (.o (.o .v)))) (.g [(.n 0), (.s []), (.s []), (.l []), (.l []), (.l []), (.l [])])⟩] [none, some 1, some 2, some 4])
 ((.seq (.reg [⟨[], [], .fp true (.e 1) 0⟩, ⟨[], [], .nop⟩, ⟨[], [], .gt (.e 3) [.k 0]⟩, ⟨[], [], .uq 3 [.k 0] (.e 4) 0 3⟩] [none, some 1, some 2, some 6])
 ((.seq (.reg [⟨[], [], .fp true (.e 1) 1⟩, ⟨[], [], .nop⟩, ⟨[], [], .gt (.e 3) [.k 1]⟩, ⟨[], [], .uq 3 [.k 1] (.e 4) 0 3⟩] [none, some 1, some 2, some 6])
 ((.seq (.reg [⟨[], [], .fp true (.e 1) 2⟩, ⟨[], [], .nop⟩, ⟨[], [], .gt (.e 3) [.k 2]⟩, ⟨[], [], .uq 3 [.k 2] (.e 4) 0 3⟩] [none, some 1, some 2, some 6])
 ((.seq (.reg [⟨[], [], .fp false (.e 1) 3⟩, ⟨[], [], .nop⟩, ⟨[], [], .ca 151 [(.e 4)] 1⟩, ⟨[], [], .gt (.e 3) [.k 3]⟩, ⟨[], [], .uq 3 [.k 3] (.e 5) 1 3⟩] [none, some 1, some 2, some 7])
 ((.seq (.reg [⟨[], [], .fp false (.e 1) 4⟩, ⟨[], [], .nop⟩, ⟨[], [], .ca 42 [(.e 4)] 1⟩, ⟨[], [], .gt (.e 3) [.k 4]⟩, ⟨[], [], .uq 3 [.k 4] (.e 5) 1 3⟩] [none, some 1, some 2, some 7])
 ((.seq (.reg [⟨[], [], .fp false (.e 1) 5⟩, ⟨[], [], .nop⟩, ⟨[], [], .ca 42 [(.e 4)] 1⟩, ⟨[], [], .gt (.e 3) [.k 5]⟩, ⟨[], [], .uq 3 [.k 5] (.e 5) 1 3⟩] [none, some 1, some 2, some 7])
 ((.seq (.reg [⟨[], [], .fp false (.e 1) 6⟩, ⟨[], [], .nop⟩, ⟨[], [], .ca 152 [(.e 4)] 1⟩, ⟨[], [], .gt (.e 3) [.k 6]⟩, ⟨[], [], .uq 3 [.k 6] (.e 5) 1 3⟩] [none, none, some 2, some 7])
 ((.seq (.reg [⟨[], [], .wl 7 (.e 3)⟩, ⟨[], [], .ws 2 7 (.e 4)⟩] [none, none, some 5, none])
 (.ret))))))))))))))))))))⟩

/-- loop.example/g03401/laws.toIntS -/
def ir_laws_toIntS : IF := ⟨[], 1, 5, [1],
 (.seq (.reg [⟨[], [], .cs (.o .v) (.l [])⟩] [some 0, none, none, none, none])
 ((.seq (.reg [⟨[], [], .nop⟩, ⟨[], [], .ln (.e 0) []⟩, ⟨[], [], .mk (.n 0) (.e 5) (.e 5)⟩, ⟨[], [], .nop⟩] [some 0, none, some 6, none, none])
 ((.seq ((.seq (.reg [⟨[], [], .cs .v (.n 0)⟩] [some 0, none, some 2, some 5, none])
 (.block 0 (.loop ((.seq ((.seq (.reg [⟨[], [], .nop⟩, ⟨[], [], .nop⟩, ⟨[], [], .ln (.e 0) []⟩, ⟨[], [], .bi .lss (.e 3) (.e 5)⟩] [some 0, none, some 2, some 3, some 6])
   (.cond 4 (.skip) (.exit 0))))
   ((.seq (.block 1 (.reg [⟨[], [], .nop⟩, ⟨[], [], .nop⟩, ⟨[], [], .nop⟩, ⟨[], [], .nop⟩, ⟨[], [], .iy (.e 0) (.e 3)⟩, ⟨[], [], .nop⟩, ⟨[], [], .ix (.e 2) [] (.e 3)⟩, ⟨[], [], .up 2 [.e 3] (.e 5)⟩] [some 0, none, some 7, some 3, none]))
   (.reg [⟨[], [], .nop⟩, ⟨[], [], .bi .add (.e 3) (.c (.n 1))⟩, ⟨[], [], .nop⟩] [some 0, none, some 2, some 5, none])))))))))
 ((.seq (.reg [⟨[], [], .nop⟩, ⟨[], [], .nop⟩] [none, some 2, none, none, none])
 (.ret))))))))⟩

/-- loop.example/g03401/laws.toIntSS -/
def ir_laws_toIntSS : IF := ⟨[], 1, 5, [1],
 (.seq (.reg [⟨[], [], .cs (.o .v) (.l [])⟩] [some 0, none, none, none, none])
 ((.seq (.reg [⟨[], [], .nop⟩, ⟨[], [], .ln (.e 0) []⟩, ⟨[], [], .mk (.l []) (.e 5) (.e 5)⟩, ⟨[], [], .nop⟩] [some 0, none, some 6, none, none])
 ((.seq ((.seq (.reg [⟨[], [], .cs .v (.n 0)⟩] [some 0, none, some 2, some 5, none])
 (.block 0 (.loop ((.seq ((.seq (.reg [⟨[], [], .nop⟩, ⟨[], [], .nop⟩, ⟨[], [], .ln (.e 0) []⟩, ⟨[], [], .bi .lss (.e 3) (.e 5)⟩] [some 0, none, some 2, some 3, some 6])
   (.cond 4 (.skip) (.exit 0))))
   ((.seq (.block 1 (.reg [⟨[], [], .nop⟩, ⟨[], [], .nop⟩, ⟨[], [], .nop⟩, ⟨[], [], .nop⟩, ⟨[], [], .ix (.e 0) [] (.e 3)⟩, ⟨[], [], .nop⟩, ⟨[], [], .ca 42 [(.e 5)] 1⟩, ⟨[], [], .ix (.e 2) [] (.e 3)⟩, ⟨[], [], .up 2 [.e 3] (.e 6)⟩] [some 0, none, some 8, some 3, none]))
   (.reg [⟨[], [], .nop⟩, ⟨[], [], .bi .add (.e 3) (.c (.n 1))⟩, ⟨[], [], .nop⟩] [some 0, none, some 2, some 5, none])))))))))
 ((.seq (.reg [⟨[], [], .nop⟩, ⟨[], [], .nop⟩] [none, some 2, none, none, none])
 (.ret))))))))⟩

/-- loop.example/g03401/laws.toStringS -/
def ir_laws_toStringS : IF := ⟨[], 1, 5, [1],
 (.seq (.reg [⟨[], [], .cs (.o .v) (.l [])⟩] [some 0, none, none, none, none])
 ((.seq (.reg [⟨[], [], .nop⟩, ⟨[], [], .ln (.e 0) []⟩, ⟨[], [], .mk (.s []) (.e 5) (.e 5)⟩, ⟨[], [], .nop⟩] [some 0, none, some 6, none, none])
 ((.seq ((.seq (.reg [⟨[], [], .cs .v (.n 0)⟩] [some 0, none, some 2, some 5, none])
 (.block 0 (.loop ((.seq ((.seq (.reg [⟨[], [], .nop⟩, ⟨[], [], .nop⟩, ⟨[], [], .ln (.e 0) []⟩, ⟨[], [], .bi .lss (.e 3) (.e 5)⟩] [some 0, none, some 2, some 3, some 6])
   (.cond 4 (.skip) (.exit 0))))
   ((.seq (.block 1 (.reg [⟨[], [], .nop⟩, ⟨[], [], .nop⟩, ⟨[], [], .nop⟩, ⟨[], [], .nop⟩, ⟨[], [], .iy (.e 0) (.e 3)⟩, ⟨[], [], .nop⟩, ⟨[], [], .ix (.e 2) [] (.e 3)⟩, ⟨[], [], .up 2 [.e 3] (.e 5)⟩] [some 0, none, some 7, some 3, none]))
   (.reg [⟨[], [], .nop⟩, ⟨[], [], .bi .add (.e 3) (.c (.n 1))⟩, ⟨[], [], .nop⟩] [some 0, none, some 2, some 5, none])))))))))
 ((.seq (.reg [⟨[], [], .nop⟩, ⟨[], [], .nop⟩] [none, some 2, none, none, none])
 (.ret))))))))⟩

end Go.Cat

namespace Go.Cat
/-- loop.example/g03401/impl.FormatInt -/
def ir_impl_FormatInt : IF := ⟨[], 1, 12, [1],
 (.seq (.reg [⟨[], [], .cs .v (.s [])⟩] [some 0, none, none, none, none, none, none, none, none, none, none, none])
 ((.seq ((.seq (.reg [⟨[], [], .nop⟩, ⟨[], [], .bi .eql (.e 0) (.c (.n 0))⟩] [some 0, none, none, none, none, none, none, some 12, none, none, none, none])
 (.cond 7 ((.seq (.reg [⟨[], [], .cs .v (.s [48])⟩] [none, some 12, none, none, none, none, none, none, none, none, none, none])
  (.ret))) (.skip))))
 ((.seq (.reg [⟨[], [], .li (.o .v) []⟩, ⟨[], [], .nop⟩] [some 0, none, some 12, none, none, none, none, none, none, none, none, none])
 ((.seq ((.seq (.reg [⟨[], [], .nop⟩, ⟨[], [], .nop⟩] [some 0, none, some 2, some 0, none, none, none, none, none, none, none, none])
 (.block 0 (.loop ((.seq ((.seq (.reg [⟨[], [], .nop⟩, ⟨[], [], .bi .neq (.e 3) (.c (.n 0))⟩] [some 0, none, some 2, some 3, none, none, none, none, some 12, none, none, none])
   (.cond 8 (.skip) (.exit 0))))
   ((.seq (.block 1 ((.seq (.reg [⟨[], [], .nop⟩, ⟨[], [], .bi .rem (.e 3) (.c (.n 10))⟩, ⟨[], [], .nop⟩] [some 0, none, some 2, some 3, some 12, none, none, none, none, none, none, none])
    ((.seq ((.seq (.reg [⟨[], [], .nop⟩, ⟨[], [], .bi .lss (.e 4) (.c (.n 0))⟩] [some 0, none, some 2, some 3, some 4, none, none, none, none, some 12, none, none])
    (.cond 9 (.reg [⟨[], [], .nop⟩, ⟨[], [], .un .neg (.e 4)⟩, ⟨[], [], .nop⟩] [some 0, none, some 2, some 3, some 12, none, none, none, none, none, none, none]) (.skip))))
    (.reg [⟨[], [], .nop⟩, ⟨[], [], .nop⟩, ⟨[], [], .bi .add (.c (.n 48)) (.e 4)⟩, ⟨[], [], .cv .u8 (.e 12)⟩, ⟨[], [], .li (.o .v) [(.e 13)]⟩, ⟨[], [], .ap false (.e 2) (.e 14)⟩, ⟨[], [], .nop⟩] [some 0, none, some 15, some 3, none, none, none, none, none, none, none, none]))))))
   (.reg [⟨[], [], .nop⟩, ⟨[], [], .bi .quo (.e 3) (.c (.n 10))⟩, ⟨[], [], .nop⟩] [some 0, none, some 2, some 12, none, none, none, none, none, none, none, none])))))))))
 ((.seq ((.seq (.reg [⟨[], [], .nop⟩, ⟨[], [], .bi .lss (.e 0) (.c (.n 0))⟩] [none, none, some 2, none, none, none, none, none, none, none, some 12, none])
 (.cond 10 (.reg [⟨[], [], .nop⟩, ⟨[], [], .li (.o .v) [(.c (.y 45))]⟩, ⟨[], [], .ap false (.e 2) (.e 12)⟩, ⟨[], [], .nop⟩] [none, none, some 13, none, none, none, none, none, none, none, none, none]) (.skip))))
 ((.seq ((.seq (.reg [⟨[], [], .nop⟩, ⟨[], [], .ln (.e 2) []⟩, ⟨[], [], .bi .sub (.e 12) (.c (.n 1))⟩, ⟨[], [], .cs .v (.n 0)⟩, ⟨[], [], .nop⟩] [none, none, some 2, none, none, some 14, some 13, none, none, none, none, none])
 (.block 2 (.loop ((.seq ((.seq (.reg [⟨[], [], .nop⟩, ⟨[], [], .nop⟩, ⟨[], [], .bi .lss (.e 5) (.e 6)⟩] [none, none, some 2, none, none, some 5, some 6, none, none, none, none, some 12])
   (.cond 11 (.skip) (.exit 2))))
   ((.seq (.block 3 (.reg [⟨[], [], .nop⟩, ⟨[], [], .nop⟩, ⟨[], [], .nop⟩, ⟨[], [], .nop⟩, ⟨[], [], .nop⟩, ⟨[], [], .nop⟩, ⟨[], [], .ix (.e 2) [] (.e 6)⟩, ⟨[], [], .nop⟩, ⟨[], [], .nop⟩, ⟨[], [], .nop⟩, ⟨[], [], .ix (.e 2) [] (.e 5)⟩, ⟨[], [], .nop⟩, ⟨[], [], .ix (.e 2) [] (.e 5)⟩, ⟨[], [], .up 2 [.e 5] (.e 12)⟩, ⟨[], [], .ix (.e 15) [] (.e 6)⟩, ⟨[], [], .up 15 [.e 6] (.e 13)⟩] [none, none, some 17, none, none, some 5, some 6, none, none, none, none, none]))
   (.reg [⟨[], [], .nop⟩, ⟨[], [], .bi .add (.e 5) (.c (.n 1))⟩, ⟨[], [], .nop⟩, ⟨[], [], .bi .sub (.e 6) (.c (.n 1))⟩, ⟨[], [], .nop⟩, ⟨[], [], .nop⟩] [none, none, some 2, none, none, some 12, some 13, none, none, none, none, none])))))))))
 ((.seq (.reg [⟨[], [], .nop⟩, ⟨[], [], .bs (.e 2)⟩, ⟨[], [], .nop⟩] [none, some 12, none, none, none, none, none, none, none, none, none, none])
 (.ret))))))))))))))⟩

/-- loop.example/g03401/impl.within -/
def ir_impl_within : IF := ⟨[], 3, 4, [3],
 (.seq (.reg [⟨[], [], .cs .v (.b false)⟩] [some 0, some 1, some 2, none])
 ((.seq (.reg [⟨[], [], .nop⟩, ⟨[], [], .nop⟩, ⟨[], [], .bi .geq (.e 0) (.e 1)⟩, ⟨[], [], .nop⟩, ⟨[], [(4, true)], .cy (.e 0)⟩, ⟨[], [(4, true)], .cy (.e 2)⟩, ⟨[], [(4, true)], .bi .leq (.e 5) (.e 6)⟩, ⟨[], [], .pk (.e 4) (.e 7) (.c (.b false))⟩, ⟨[], [], .nop⟩] [none, none, none, some 8])
 (.ret))))⟩

end Go.Cat

namespace Go.Cat
/-- loop.example/g03401/impl.IsDyck -/
def ir_impl_IsDyck : IF := ⟨[], 1, 4, [1],
 (.seq (.reg [⟨[], [], .cs .v (.b false)⟩] [some 0, none, none, none])
 ((.seq ((.seq (.reg [⟨[], [], .nop⟩, ⟨[], [], .sn (.e 0)⟩, ⟨[], [], .bi .gtr (.e 4) (.c (.n 16))⟩] [some 0, none, none, some 5])
 (.cond 3 ((.seq (.reg [⟨[], [], .cs .v (.b false)⟩] [none, some 4, none, none])
  (.ret))) (.skip))))
 ((.seq (.reg [⟨[], [], .nop⟩, ⟨[], [], .ca 82 [(.e 0)] 2⟩, ⟨[], [], .nop⟩, ⟨[], [], .nop⟩, ⟨[], [], .nop⟩, ⟨[], [], .nop⟩, ⟨[], [], .nop⟩] [none, none, some 5, none])
 ((.seq (.reg [⟨[], [], .nop⟩, ⟨[], [], .nop⟩] [none, some 2, none, none])
 (.ret))))))))⟩

/-- loop.example/g03401/impl.PeaksOf -/
def ir_impl_PeaksOf : IF := ⟨[], 1, 7, [1],
 (.seq (.reg [⟨[], [], .cs .v (.n 0)⟩] [some 0, none, none, none, none, none, none])
 ((.seq ((.seq (.reg [⟨[], [], .nop⟩, ⟨[], [], .ca 67 [(.e 0)] 1⟩, ⟨[], [], .un .not (.e 7)⟩] [some 0, none, none, none, some 8, none, none])
 (.cond 4 ((.seq (.reg [⟨[], [], .cs .v (.n (-1))⟩] [none, some 7, none, none, none, none, none])
  (.ret))) (.skip))))
 ((.seq (.reg [⟨[], [], .cs .v (.n 0)⟩] [some 0, none, some 7, none, none, none, none])
 ((.seq ((.seq (.reg [⟨[], [], .cs .v (.n 1)⟩] [some 0, none, some 2, some 7, none, none, none])
 (.block 0 (.loop ((.seq ((.seq (.reg [⟨[], [], .nop⟩, ⟨[], [], .nop⟩, ⟨[], [], .sn (.e 0)⟩, ⟨[], [], .bi .lss (.e 3) (.e 7)⟩] [some 0, none, some 2, some 3, none, some 8, none])
   (.cond 5 (.skip) (.exit 0))))
   ((.seq (.block 1 ((.seq (.reg [⟨[], [], .nop⟩, ⟨[], [], .nop⟩, ⟨[], [], .bi .sub (.e 3) (.c (.n 1))⟩, ⟨[], [], .sx (.e 0) (.e 7)⟩, ⟨[], [], .bi .eql (.e 8) (.c (.y 117))⟩, ⟨[], [], .nop⟩, ⟨[], [(9, true)], .cy (.e 0)⟩, ⟨[], [(9, true)], .cy (.e 3)⟩, ⟨[], [(9, true)], .sx (.e 10) (.e 11)⟩, ⟨[], [(9, true)], .bi .eql (.e 12) (.c (.y 100))⟩, ⟨[], [], .pk (.e 9) (.e 13) (.c (.b false))⟩] [some 0, none, some 2, some 3, none, none, some 14])
    (.cond 6 (.reg [⟨[], [], .nop⟩, ⟨[], [], .bi .add (.e 2) (.c (.n 1))⟩, ⟨[], [], .nop⟩] [some 0, none, some 7, some 3, none, none, none]) (.skip)))))
   (.reg [⟨[], [], .nop⟩, ⟨[], [], .bi .add (.e 3) (.c (.n 1))⟩, ⟨[], [], .nop⟩] [some 0, none, some 2, some 7, none, none, none])))))))))
 ((.seq (.reg [⟨[], [], .nop⟩, ⟨[], [], .nop⟩] [none, some 2, none, none, none, none, none])
 (.ret))))))))))⟩

/-- loop.example/g03401/impl.SizeOf -/
def ir_impl_SizeOf : IF := ⟨[], 1, 3, [1],
 (.seq (.reg [⟨[], [], .cs .v (.n 0)⟩] [some 0, none, none])
 ((.seq ((.seq (.reg [⟨[], [], .nop⟩, ⟨[], [], .ca 67 [(.e 0)] 1⟩, ⟨[], [], .un .not (.e 3)⟩] [some 0, none, some 4])
 (.cond 2 ((.seq (.reg [⟨[], [], .cs .v (.n (-1))⟩] [none, some 3, none])
  (.ret))) (.skip))))
 ((.seq (.reg [⟨[], [], .nop⟩, ⟨[], [], .sn (.e 0)⟩, ⟨[], [], .bi .quo (.e 3) (.c (.n 2))⟩, ⟨[], [], .nop⟩] [none, some 4, none])
 (.ret))))))⟩

/-- loop.example/g03401/impl.copyInts -/
def ir_impl_copyInts : IF := ⟨[], 1, 2, [1],
 (.seq (.reg [⟨[], [], .cs (.o .v) (.l [])⟩] [some 0, none])
 ((.seq (.reg [⟨[], [], .li (.o .v) []⟩, ⟨[], [], .nop⟩, ⟨[], [], .ap true (.e 2) (.e 0)⟩, ⟨[], [], .nop⟩] [none, some 3])
 (.ret))))⟩

/-- loop.example/g03401/impl.equalInts -/
def ir_impl_equalInts : IF := ⟨[], 2, 9, [2],
 (.seq (.reg [⟨[], [], .cs .v (.b false)⟩] [some 0, some 1, none, none, none, none, none, none, none])
 ((.seq ((.seq (.reg [⟨[], [], .nop⟩, ⟨[], [], .ln (.e 0) []⟩, ⟨[], [], .nop⟩, ⟨[], [], .ln (.e 1) []⟩, ⟨[], [], .bi .neq (.e 9) (.e 10)⟩] [some 0, some 1, none, none, some 11, none, none, none, none])
 (.cond 4 ((.seq (.reg [⟨[], [], .cs .v (.b false)⟩] [none, none, some 9, none, none, none, none, none, none])
  (.ret))) (.skip))))
 ((.seq ((.seq (.reg [⟨[], [], .nop⟩, ⟨[], [], .ln (.e 0) []⟩, ⟨[], [], .cs .v (.n 0)⟩] [some 0, some 1, none, none, none, some 9, some 10, none, none])
 (.block 0 (.loop ((.seq (.reg [⟨[], [], .bi .lss (.e 6) (.e 5)⟩] [some 0, some 1, none, none, none, some 5, some 6, some 9, none])
   ((.seq (.cond 7 (.skip) (.exit 0))
   ((.seq (.block 1 ((.seq (.reg [⟨[], [], .nop⟩, ⟨[], [], .nop⟩] [some 0, some 1, none, some 6, none, some 5, some 6, none, none])
    ((.seq (.reg [⟨[], [], .nop⟩, ⟨[], [], .nop⟩, ⟨[], [], .iy (.e 0) (.e 3)⟩, ⟨[], [], .nop⟩, ⟨[], [], .nop⟩, ⟨[], [], .nop⟩, ⟨[], [], .iy (.e 1) (.e 3)⟩, ⟨[], [], .nop⟩, ⟨[], [], .bi .neq (.e 9) (.e 10)⟩] [some 0, some 1, none, none, none, some 5, some 6, none, some 11])
    (.cond 8 ((.seq (.reg [⟨[], [], .cs .v (.b false)⟩] [none, none, some 9, none, none, none, none, none, none])
     (.ret))) (.skip)))))))
   (.reg [⟨[], [], .bi .add (.e 6) (.c (.n 1))⟩, ⟨[], [], .nop⟩] [some 0, some 1, none, none, none, some 5, some 9, none, none])))))))))))
 ((.seq (.reg [⟨[], [], .cs .v (.b true)⟩] [none, none, some 9, none, none, none, none, none, none])
 (.ret))))))))⟩

/-- loop.example/g03401/impl.glued -/
def ir_impl_glued : IF := ⟨[], 2, 11, [2],
 (.seq (.reg [⟨[], [], .cs .v (.s [])⟩] [some 0, some 1, none, none, none, none, none, none, none, none, none])
 ((.seq (.reg [⟨[], [], .cs .v (.s [])⟩] [some 0, some 1, none, some 11, none, none, none, none, none, none, none])
 ((.seq ((.seq (.reg [⟨[], [], .nop⟩, ⟨[], [], .ln (.e 0) []⟩, ⟨[], [], .cs .v (.n 0)⟩] [none, some 1, none, some 3, none, none, some 0, some 11, some 12, none, none])
 (.block 0 (.loop ((.seq (.reg [⟨[], [], .bi .lss (.e 8) (.e 7)⟩] [none, some 1, none, some 3, none, none, some 6, some 7, some 8, some 11, none])
   ((.seq (.cond 9 (.skip) (.exit 0))
   ((.seq (.block 1 ((.seq (.reg [⟨[], [], .nop⟩, ⟨[], [], .iy (.e 6) (.e 8)⟩, ⟨[], [], .nop⟩, ⟨[], [], .nop⟩, ⟨[], [], .nop⟩] [none, some 1, none, some 3, some 8, some 11, some 6, some 7, some 8, none, none])
    ((.seq ((.seq (.reg [⟨[], [], .nop⟩, ⟨[], [], .bi .gtr (.e 4) (.c (.n 0))⟩] [none, some 1, none, some 3, none, some 5, some 6, some 7, some 8, none, some 11])
    (.cond 10 (.reg [⟨[], [], .nop⟩, ⟨[], [], .nop⟩, ⟨[], [], .bi .add (.e 3) (.e 1)⟩, ⟨[], [], .nop⟩] [none, some 1, none, some 11, none, some 5, some 6, some 7, some 8, none, none]) (.skip))))
    (.reg [⟨[], [], .nop⟩, ⟨[], [], .nop⟩, ⟨[], [], .bi .add (.e 3) (.e 5)⟩, ⟨[], [], .nop⟩] [none, some 1, none, some 11, none, none, some 6, some 7, some 8, none, none]))))))
   (.reg [⟨[], [], .bi .add (.e 8) (.c (.n 1))⟩, ⟨[], [], .nop⟩] [none, some 1, none, some 3, none, none, some 6, some 7, some 11, none, none])))))))))))
 ((.seq (.reg [⟨[], [], .nop⟩, ⟨[], [], .nop⟩] [none, none, some 3, none, none, none, none, none, none, none, none])
 (.ret))))))))⟩

/-- loop.example/g03401/impl.heights -/
def ir_impl_heights : IF := ⟨[], 1, 11, [1, 2],
 (.seq (.reg [⟨[], [], .cs (.o .v) (.l [])⟩, ⟨[], [], .cs .v (.b false)⟩] [some 0, none, none, none, none, none, none, none, none, none, none])
 ((.seq (.reg [⟨[], [], .li (.o .v) [(.c (.n 0))]⟩, ⟨[], [], .nop⟩] [some 0, none, none, some 11, none, none, none, none, none, none, none])
 ((.seq (.reg [⟨[], [], .cs .v (.n 0)⟩] [some 0, none, none, some 3, some 11, none, none, none, none, none, none])
 ((.seq ((.seq (.reg [⟨[], [], .cs .v (.n 0)⟩] [some 0, none, none, some 3, some 4, some 11, none, none, none, none, none])
 (.block 0 (.loop ((.seq ((.seq (.reg [⟨[], [], .nop⟩, ⟨[], [], .nop⟩, ⟨[], [], .sn (.e 0)⟩, ⟨[], [], .bi .lss (.e 5) (.e 11)⟩] [some 0, none, none, some 3, some 4, some 5, some 12, none, none, none, none])
   (.cond 6 (.skip) (.exit 0))))
   ((.seq (.block 1 ((.seq ((.seq (.reg [⟨[], [], .nop⟩, ⟨[], [], .nop⟩, ⟨[], [], .sx (.e 0) (.e 5)⟩] [some 0, none, none, some 3, some 4, some 5, none, some 11, none, none, none])
    (.block 2 ((.seq (.reg [⟨[], [], .bi .eql (.e 7) (.c (.y 117))⟩, ⟨[], [], .nop⟩] [some 0, none, none, some 3, some 4, some 5, none, some 7, some 11, none, none])
     (.cond 8 (.reg [⟨[], [], .nop⟩, ⟨[], [], .bi .add (.e 4) (.c (.n 1))⟩, ⟨[], [], .nop⟩] [some 0, none, none, some 3, some 11, some 5, none, none, none, none, none]) ((.seq (.reg [⟨[], [], .bi .eql (.e 7) (.c (.y 100))⟩, ⟨[], [], .nop⟩] [some 0, none, none, some 3, some 4, some 5, none, none, none, some 11, none])
      (.cond 9 (.reg [⟨[], [], .nop⟩, ⟨[], [], .bi .sub (.e 4) (.c (.n 1))⟩, ⟨[], [], .nop⟩] [some 0, none, none, some 3, some 11, some 5, none, none, none, none, none]) ((.seq (.reg [⟨[], [], .cs (.o .v) (.l [])⟩, ⟨[], [], .cs .v (.b false)⟩] [none, some 11, some 12, none, none, none, none, none, none, none, none])
       (.ret))))))))))))
    ((.seq ((.seq (.reg [⟨[], [], .nop⟩, ⟨[], [], .bi .lss (.e 4) (.c (.n 0))⟩] [some 0, none, none, some 3, some 4, some 5, none, none, none, none, some 11])
    (.cond 10 ((.seq (.reg [⟨[], [], .cs (.o .v) (.l [])⟩, ⟨[], [], .cs .v (.b false)⟩] [none, some 11, some 12, none, none, none, none, none, none, none, none])
     (.ret))) (.skip))))
    (.reg [⟨[], [], .nop⟩, ⟨[], [], .nop⟩, ⟨[], [], .li (.o .v) [(.e 4)]⟩, ⟨[], [], .ap false (.e 3) (.e 11)⟩, ⟨[], [], .nop⟩] [some 0, none, none, some 12, some 4, some 5, none, none, none, none, none]))))))
   (.reg [⟨[], [], .nop⟩, ⟨[], [], .bi .add (.e 5) (.c (.n 1))⟩, ⟨[], [], .nop⟩] [some 0, none, none, some 3, some 4, some 11, none, none, none, none, none])))))))))
 ((.seq (.reg [⟨[], [], .nop⟩, ⟨[], [], .nop⟩, ⟨[], [], .bi .eql (.e 4) (.c (.n 0))⟩, ⟨[], [], .nop⟩, ⟨[], [], .nop⟩] [none, some 3, some 11, none, none, none, none, none, none, none, none])
 (.ret))))))))))⟩

end Go.Cat

namespace Go.Cat
/-- loop.example/g03401/impl.BallotNumber -/
def ir_impl_BallotNumber : IF := ⟨[], 2, 15, [2],
 (.seq (.reg [⟨[], [], .cs .v (.n 0)⟩] [some 0, some 1, none, none, none, none, none, none, none, none, none, none, none, none, none])
 ((.seq ((.seq (.reg [⟨[], [], .nop⟩, ⟨[], [], .ca 23 [(.e 0), (.c (.n 0)), (.c (.n 15))] 1⟩, ⟨[], [], .un .not (.e 15)⟩, ⟨[], [], .nop⟩, ⟨[], [(16, false)], .cy (.e 1)⟩, ⟨[], [(16, false)], .cy (.e 0)⟩, ⟨[], [(16, false)], .ca 23 [(.e 17), (.e 18), (.c (.n 15))] 1⟩, ⟨[], [(16, false)], .un .not (.e 19)⟩, ⟨[], [], .pk (.e 16) (.c (.b true)) (.e 20)⟩] [some 0, some 1, none, none, none, none, none, none, some 21, none, none, none, none, none, none])
 (.cond 8 ((.seq (.reg [⟨[], [], .cs .v (.n 0)⟩] [none, none, some 15, none, none, none, none, none, none, none, none, none, none, none, none])
  (.ret))) (.skip))))
 ((.seq (.reg [⟨[], [], .nop⟩, ⟨[], [], .bi .add (.e 1) (.c (.n 1))⟩, ⟨[], [], .mk (.n 0) (.e 15) (.e 15)⟩, ⟨[], [], .nop⟩] [some 0, some 1, none, some 16, none, none, none, none, none, none, none, none, none, none, none])
 ((.seq ((.seq (.reg [⟨[], [], .nop⟩, ⟨[], [], .ln (.e 3) []⟩, ⟨[], [], .cs .v (.n 0)⟩] [some 0, some 1, none, some 3, none, none, none, none, none, some 15, some 16, none, none, none, none])
 (.block 0 (.loop ((.seq (.reg [⟨[], [], .bi .lss (.e 10) (.e 9)⟩] [some 0, some 1, none, some 3, none, none, none, none, none, some 9, some 10, some 15, none, none, none])
   ((.seq (.cond 11 (.skip) (.exit 0))
   ((.seq (.block 1 ((.seq (.reg [⟨[], [], .nop⟩, ⟨[], [], .nop⟩] [some 0, some 1, none, some 3, some 10, none, none, none, none, some 9, some 10, none, none, none, none])
    (.reg [⟨[], [], .nop⟩, ⟨[], [], .nop⟩, ⟨[], [], .ix (.e 3) [] (.e 4)⟩, ⟨[], [], .up 3 [.e 4] (.c (.n 1))⟩] [some 0, some 1, none, some 16, none, none, none, none, none, some 9, some 10, none, none, none, none]))))
   (.reg [⟨[], [], .bi .add (.e 10) (.c (.n 1))⟩, ⟨[], [], .nop⟩] [some 0, some 1, none, some 3, none, none, none, none, none, some 9, some 15, none, none, none, none])))))))))))
 ((.seq ((.seq (.reg [⟨[], [], .cs .v (.n 1)⟩] [some 0, some 1, none, some 3, none, some 15, none, none, none, none, none, none, none, none, none])
 (.block 2 (.loop ((.seq ((.seq (.reg [⟨[], [], .nop⟩, ⟨[], [], .nop⟩, ⟨[], [], .bi .leq (.e 5) (.e 0)⟩] [some 0, some 1, none, some 3, none, some 5, none, none, none, none, none, none, some 15, none, none])
   (.cond 12 (.skip) (.exit 2))))
   ((.seq (.block 3 ((.seq (.reg [⟨[], [], .nop⟩, ⟨[], [], .bi .add (.e 1) (.c (.n 1))⟩, ⟨[], [], .mk (.n 0) (.e 15) (.e 15)⟩, ⟨[], [], .nop⟩] [some 0, some 1, none, some 3, none, some 5, some 16, none, none, none, none, none, none, none, none])
    ((.seq ((.seq (.reg [⟨[], [], .nop⟩, ⟨[], [], .nop⟩] [some 0, some 1, none, some 3, none, some 5, some 6, some 5, none, none, none, none, none, none, none])
    (.block 4 (.loop ((.seq ((.seq (.reg [⟨[], [], .nop⟩, ⟨[], [], .nop⟩, ⟨[], [], .bi .leq (.e 7) (.e 1)⟩] [some 0, some 1, none, some 3, none, some 5, some 6, some 7, none, none, none, none, none, some 15, none])
      (.cond 13 (.skip) (.exit 4))))
      ((.seq (.block 5 ((.seq (.reg [⟨[], [], .nop⟩, ⟨[], [], .nop⟩, ⟨[], [], .nop⟩, ⟨[], [], .nop⟩, ⟨[], [], .ix (.e 3) [] (.e 7)⟩, ⟨[], [], .nop⟩, ⟨[], [], .ix (.e 6) [] (.e 7)⟩, ⟨[], [], .up 6 [.e 7] (.e 15)⟩] [some 0, some 1, none, some 3, none, some 5, some 17, some 7, none, none, none, none, none, none, none])
       ((.seq (.reg [⟨[], [], .nop⟩, ⟨[], [], .nop⟩, ⟨[], [], .bi .gtr (.e 7) (.e 5)⟩] [some 0, some 1, none, some 3, none, some 5, some 6, some 7, none, none, none, none, none, none, some 15])
       (.cond 14 (.reg [⟨[], [], .nop⟩, ⟨[], [], .nop⟩, ⟨[], [], .nop⟩, ⟨[], [], .nop⟩, ⟨[], [], .ix (.e 6) [] (.e 7)⟩, ⟨[], [], .nop⟩, ⟨[], [], .nop⟩, ⟨[], [], .nop⟩, ⟨[], [], .bi .sub (.e 7) (.c (.n 1))⟩, ⟨[], [], .ix (.e 6) [] (.e 16)⟩, ⟨[], [], .nop⟩, ⟨[], [], .bi .add (.e 15) (.e 17)⟩, ⟨[], [], .ix (.e 6) [] (.e 7)⟩, ⟨[], [], .up 6 [.e 7] (.e 18)⟩] [some 0, some 1, none, some 3, none, some 5, some 20, some 7, none, none, none, none, none, none, none]) (.skip)))))))
      (.reg [⟨[], [], .nop⟩, ⟨[], [], .bi .add (.e 7) (.c (.n 1))⟩, ⟨[], [], .nop⟩] [some 0, some 1, none, some 3, none, some 5, some 6, some 15, none, none, none, none, none, none, none])))))))))
    (.reg [⟨[], [], .nop⟩, ⟨[], [], .nop⟩] [some 0, some 1, none, some 6, none, some 5, none, none, none, none, none, none, none, none, none]))))))
   (.reg [⟨[], [], .nop⟩, ⟨[], [], .bi .add (.e 5) (.c (.n 1))⟩, ⟨[], [], .nop⟩] [some 0, some 1, none, some 3, none, some 15, none, none, none, none, none, none, none, none, none])))))))))
 ((.seq (.reg [⟨[], [], .nop⟩, ⟨[], [], .nop⟩, ⟨[], [], .ix (.e 3) [] (.e 1)⟩, ⟨[], [], .nop⟩, ⟨[], [], .nop⟩] [none, none, some 15, none, none, none, none, none, none, none, none, none, none, none, none])
 (.ret))))))))))))⟩

/-- loop.example/g03401/impl.CatalanNumber -/
def ir_impl_CatalanNumber : IF := ⟨[], 1, 3, [1],
 (.seq (.reg [⟨[], [], .cs .v (.n 0)⟩] [some 0, none, none])
 ((.seq ((.seq (.reg [⟨[], [], .nop⟩, ⟨[], [], .ca 23 [(.e 0), (.c (.n 0)), (.c (.n 15))] 1⟩, ⟨[], [], .un .not (.e 3)⟩] [some 0, none, some 4])
 (.cond 2 ((.seq (.reg [⟨[], [], .cs .v (.n (-1))⟩] [none, some 3, none])
  (.ret))) (.skip))))
 ((.seq (.reg [⟨[], [], .nop⟩, ⟨[], [], .nop⟩, ⟨[], [], .ca 27 [(.e 0), (.e 0)] 1⟩, ⟨[], [], .nop⟩] [none, some 3, none])
 (.ret))))))⟩

/-- loop.example/g03401/impl.NarayanaNumber -/
def ir_impl_NarayanaNumber : IF := ⟨[], 2, 6, [2],
 (.seq (.reg [⟨[], [], .cs .v (.n 0)⟩] [some 0, some 1, none, none, none, none])
 ((.seq (.block 0 ((.seq (.reg [⟨[], [], .nop⟩, ⟨[], [], .ca 23 [(.e 0), (.c (.n 0)), (.c (.n 15))] 1⟩, ⟨[], [], .un .not (.e 6)⟩, ⟨[], [], .nop⟩, ⟨[], [(7, false)], .cy (.e 1)⟩, ⟨[], [(7, false)], .cy (.e 0)⟩, ⟨[], [(7, false)], .ca 23 [(.e 8), (.c (.n 0)), (.e 9)] 1⟩, ⟨[], [(7, false)], .un .not (.e 10)⟩, ⟨[], [], .pk (.e 7) (.c (.b true)) (.e 11)⟩, ⟨[], [], .nop⟩] [some 0, some 1, none, some 12, none, none])
  (.cond 3 ((.seq (.reg [⟨[], [], .cs .v (.n 0)⟩] [none, none, some 6, none, none, none])
   (.ret))) ((.seq (.reg [⟨[], [], .nop⟩, ⟨[], [], .bi .eql (.e 0) (.c (.n 0))⟩, ⟨[], [], .nop⟩] [some 0, some 1, none, none, some 6, none])
   (.cond 4 ((.seq (.reg [⟨[], [], .cs .v (.n 1)⟩] [none, none, some 6, none, none, none])
    (.ret))) ((.seq (.reg [⟨[], [], .nop⟩, ⟨[], [], .bi .eql (.e 1) (.c (.n 0))⟩, ⟨[], [], .nop⟩] [some 0, some 1, none, none, none, some 6])
    (.cond 5 ((.seq (.reg [⟨[], [], .cs .v (.n 0)⟩] [none, none, some 6, none, none, none])
     (.ret))) (.skip)))))))))))
 ((.seq (.reg [⟨[], [], .nop⟩, ⟨[], [], .nop⟩, ⟨[], [], .ca 25 [(.e 0), (.e 1)] 1⟩, ⟨[], [], .nop⟩, ⟨[], [], .nop⟩, ⟨[], [], .bi .sub (.e 1) (.c (.n 1))⟩, ⟨[], [], .ca 25 [(.e 0), (.e 7)] 1⟩, ⟨[], [], .bi .mul (.e 6) (.e 8)⟩, ⟨[], [], .nop⟩, ⟨[], [], .bi .quo (.e 9) (.e 0)⟩, ⟨[], [], .nop⟩] [none, none, some 10, none, none, none])
 (.ret))))))⟩

/-- loop.example/g03401/impl.NextPath -/
def ir_impl_NextPath : IF := ⟨[], 1, 4, [1, 2],
 (.seq (.reg [⟨[], [], .cs .v (.s [])⟩, ⟨[], [], .cs .v (.b false)⟩] [some 0, none, none, none])
 ((.seq ((.seq (.reg [⟨[], [], .nop⟩, ⟨[], [], .ca 67 [(.e 0)] 1⟩, ⟨[], [], .un .not (.e 4)⟩] [some 0, none, none, some 5])
 (.cond 3 ((.seq (.reg [⟨[], [], .cs .v (.s [])⟩, ⟨[], [], .cs .v (.b false)⟩] [none, some 4, some 5, none])
  (.ret))) (.skip))))
 ((.seq (.reg [⟨[], [], .nop⟩, ⟨[], [], .ca 132 [(.e 0)] 1⟩, ⟨[], [], .nop⟩, ⟨[], [], .ca 273 [(.e 0)] 1⟩, ⟨[], [], .bi .add (.e 5) (.c (.n 1))⟩, ⟨[], [], .ca 271 [(.e 4), (.e 6)] 2⟩, ⟨[], [], .nop⟩, ⟨[], [], .nop⟩, ⟨[], [], .nop⟩, ⟨[], [], .nop⟩] [none, some 7, some 8, none])
 (.ret))))))⟩

/-- loop.example/g03401/impl.PathsOf -/
def ir_impl_PathsOf : IF := ⟨[], 1, 3, [1],
 (.seq (.reg [⟨[], [], .cs (.o .v) (.l [])⟩] [some 0, none, none])
 ((.seq ((.seq (.reg [⟨[], [], .nop⟩, ⟨[], [], .ca 23 [(.e 0), (.c (.n 0)), (.c (.n 6))] 1⟩, ⟨[], [], .un .not (.e 3)⟩] [some 0, none, some 4])
 (.cond 2 ((.seq (.reg [⟨[], [], .li (.o .v) []⟩, ⟨[], [], .nop⟩] [none, some 3, none])
  (.ret))) (.skip))))
 ((.seq (.reg [⟨[], [], .nop⟩, ⟨[], [], .ca 314 [(.e 0)] 1⟩, ⟨[], [], .nop⟩] [none, some 3, none])
 (.ret))))))⟩

/-- loop.example/g03401/impl.RankPath -/
def ir_impl_RankPath : IF := ⟨[], 1, 10, [1],
 (.seq (.reg [⟨[], [], .cs .v (.n 0)⟩] [some 0, none, none, none, none, none, none, none, none, none])
 ((.seq ((.seq (.reg [⟨[], [], .nop⟩, ⟨[], [], .ca 67 [(.e 0)] 1⟩, ⟨[], [], .un .not (.e 10)⟩] [some 0, none, none, none, none, none, some 11, none, none, none])
 (.cond 6 ((.seq (.reg [⟨[], [], .cs .v (.n (-1))⟩] [none, some 10, none, none, none, none, none, none, none, none])
  (.ret))) (.skip))))
 ((.seq (.reg [⟨[], [], .cs .v (.n 0)⟩] [some 0, none, some 10, none, none, none, none, none, none, none])
 ((.seq (.reg [⟨[], [], .nop⟩, ⟨[], [], .sn (.e 0)⟩, ⟨[], [], .bi .quo (.e 10) (.c (.n 2))⟩, ⟨[], [], .nop⟩, ⟨[], [], .sn (.e 0)⟩, ⟨[], [], .bi .quo (.e 12) (.c (.n 2))⟩, ⟨[], [], .nop⟩, ⟨[], [], .nop⟩] [some 0, none, some 2, some 11, some 13, none, none, none, none, none])
 ((.seq ((.seq (.reg [⟨[], [], .cs .v (.n 0)⟩] [some 0, none, some 2, some 3, some 4, some 10, none, none, none, none])
 (.block 0 (.loop ((.seq ((.seq (.reg [⟨[], [], .nop⟩, ⟨[], [], .nop⟩, ⟨[], [], .sn (.e 0)⟩, ⟨[], [], .bi .lss (.e 5) (.e 10)⟩] [some 0, none, some 2, some 3, some 4, some 5, none, some 11, none, none])
   (.cond 7 (.skip) (.exit 0))))
   ((.seq (.block 1 ((.seq ((.seq (.reg [⟨[], [], .nop⟩, ⟨[], [], .nop⟩, ⟨[], [], .sx (.e 0) (.e 5)⟩, ⟨[], [], .bi .eql (.e 10) (.c (.y 117))⟩] [some 0, none, some 2, some 3, some 4, some 5, none, none, some 11, none])
    (.cond 8 ((.seq (.reg [⟨[], [], .nop⟩, ⟨[], [], .bi .sub (.e 3) (.c (.n 1))⟩, ⟨[], [], .nop⟩] [some 0, none, some 2, some 10, some 4, some 5, none, none, none, none])
     (.exit 1))) (.skip))))
    ((.seq ((.seq (.reg [⟨[], [], .nop⟩, ⟨[], [], .bi .gtr (.e 3) (.c (.n 0))⟩] [some 0, none, some 2, some 3, some 4, some 5, none, none, none, some 10])
    (.cond 9 (.reg [⟨[], [], .nop⟩, ⟨[], [], .nop⟩, ⟨[], [], .bi .sub (.e 3) (.c (.n 1))⟩, ⟨[], [], .nop⟩, ⟨[], [], .ca 27 [(.e 10), (.e 4)] 1⟩, ⟨[], [], .bi .add (.e 2) (.e 11)⟩, ⟨[], [], .nop⟩] [some 0, none, some 12, some 3, some 4, some 5, none, none, none, none]) (.skip))))
    (.reg [⟨[], [], .nop⟩, ⟨[], [], .bi .sub (.e 4) (.c (.n 1))⟩, ⟨[], [], .nop⟩] [some 0, none, some 2, some 3, some 10, some 5, none, none, none, none]))))))
   (.reg [⟨[], [], .nop⟩, ⟨[], [], .bi .add (.e 5) (.c (.n 1))⟩, ⟨[], [], .nop⟩] [some 0, none, some 2, some 3, some 4, some 10, none, none, none, none])))))))))
 ((.seq (.reg [⟨[], [], .nop⟩, ⟨[], [], .nop⟩] [none, some 2, none, none, none, none, none, none, none, none])
 (.ret))))))))))))⟩

/-- loop.example/g03401/impl.UnrankPath -/
def ir_impl_UnrankPath : IF := ⟨[], 2, 12, [2, 3],
 (.seq (.reg [⟨[], [], .cs .v (.s [])⟩, ⟨[], [], .cs .v (.b false)⟩] [some 0, some 1, none, none, none, none, none, none, none, none, none, none])
 ((.seq ((.seq (.reg [⟨[], [], .nop⟩, ⟨[], [], .ca 23 [(.e 0), (.c (.n 0)), (.c (.n 8))] 1⟩, ⟨[], [], .un .not (.e 12)⟩, ⟨[], [], .nop⟩, ⟨[], [(13, false)], .cy (.e 1)⟩, ⟨[], [(13, false)], .cy (.e 0)⟩, ⟨[], [(13, false)], .ca 28 [(.e 15)] 1⟩, ⟨[], [(13, false)], .bi .sub (.e 16) (.c (.n 1))⟩, ⟨[], [(13, false)], .ca 23 [(.e 14), (.c (.n 0)), (.e 17)] 1⟩, ⟨[], [(13, false)], .un .not (.e 18)⟩, ⟨[], [], .pk (.e 13) (.c (.b true)) (.e 19)⟩] [some 0, some 1, none, none, none, none, none, none, some 20, none, none, none])
 (.cond 8 ((.seq (.reg [⟨[], [], .cs .v (.s [])⟩, ⟨[], [], .cs .v (.b false)⟩] [none, none, some 12, some 13, none, none, none, none, none, none, none, none])
  (.ret))) (.skip))))
 ((.seq (.reg [⟨[], [], .li (.o .v) []⟩, ⟨[], [], .nop⟩] [some 0, some 1, none, none, some 12, none, none, none, none, none, none, none])
 ((.seq (.reg [⟨[], [], .nop⟩, ⟨[], [], .nop⟩, ⟨[], [], .nop⟩, ⟨[], [], .nop⟩] [none, some 1, none, none, some 4, some 0, some 0, none, none, none, none, none])
 ((.seq (.block 0 (.loop ((.seq ((.seq (.reg [⟨[], [], .nop⟩, ⟨[], [], .nop⟩, ⟨[], [], .bi .add (.e 5) (.e 6)⟩, ⟨[], [], .bi .gtr (.e 12) (.c (.n 0))⟩] [none, some 1, none, none, some 4, some 5, some 6, none, none, some 13, none, none])
   (.cond 9 (.skip) (.exit 0))))
   (.block 1 ((.seq (.reg [⟨[], [], .cs .v (.n 0)⟩] [none, some 1, none, none, some 4, some 5, some 6, some 12, none, none, none, none])
    ((.seq ((.seq (.reg [⟨[], [], .nop⟩, ⟨[], [], .bi .gtr (.e 5) (.c (.n 0))⟩] [none, some 1, none, none, some 4, some 5, some 6, some 7, none, none, some 12, none])
    (.cond 10 (.reg [⟨[], [], .nop⟩, ⟨[], [], .bi .sub (.e 5) (.c (.n 1))⟩, ⟨[], [], .nop⟩, ⟨[], [], .ca 27 [(.e 12), (.e 6)] 1⟩, ⟨[], [], .nop⟩] [none, some 1, none, none, some 4, some 5, some 6, some 13, none, none, none, none]) (.skip))))
    ((.seq (.reg [⟨[], [], .nop⟩, ⟨[], [], .nop⟩, ⟨[], [], .bi .lss (.e 1) (.e 7)⟩] [none, some 1, none, none, some 4, some 5, some 6, some 7, none, none, none, some 12])
    (.cond 11 ((.seq (.reg [⟨[], [], .nop⟩, ⟨[], [], .li (.o .v) [(.c (.y 117))]⟩, ⟨[], [], .ap false (.e 4) (.e 12)⟩, ⟨[], [], .nop⟩] [none, some 1, none, none, some 13, some 5, some 6, none, none, none, none, none])
     (.reg [⟨[], [], .nop⟩, ⟨[], [], .bi .sub (.e 5) (.c (.n 1))⟩, ⟨[], [], .nop⟩] [none, some 1, none, none, some 4, some 12, some 6, none, none, none, none, none]))) ((.seq (.reg [⟨[], [], .nop⟩, ⟨[], [], .li (.o .v) [(.c (.y 100))]⟩, ⟨[], [], .ap false (.e 4) (.e 12)⟩, ⟨[], [], .nop⟩] [none, some 1, none, none, some 13, some 5, some 6, some 7, none, none, none, none])
     ((.seq (.reg [⟨[], [], .nop⟩, ⟨[], [], .bi .sub (.e 6) (.c (.n 1))⟩, ⟨[], [], .nop⟩] [none, some 1, none, none, some 4, some 5, some 12, some 7, none, none, none, none])
     (.reg [⟨[], [], .nop⟩, ⟨[], [], .nop⟩, ⟨[], [], .bi .sub (.e 1) (.e 7)⟩, ⟨[], [], .nop⟩] [none, some 12, none, none, some 4, some 5, some 6, none, none, none, none, none])))))))))))))))))
 ((.seq (.reg [⟨[], [], .nop⟩, ⟨[], [], .bs (.e 4)⟩, ⟨[], [], .nop⟩, ⟨[], [], .cs .v (.b true)⟩] [none, none, some 12, some 13, none, none, none, none, none, none, none, none])
 (.ret))))))))))))⟩

/-- loop.example/g03401/impl.choose -/
def ir_impl_choose : IF := ⟨[], 2, 7, [2],
 (.seq (.reg [⟨[], [], .cs .v (.n 0)⟩] [some 0, some 1, none, none, none, none, none])
 ((.seq ((.seq (.reg [⟨[], [], .nop⟩, ⟨[], [], .bi .lss (.e 1) (.c (.n 0))⟩, ⟨[], [], .nop⟩, ⟨[], [(7, false)], .cy (.e 1)⟩, ⟨[], [(7, false)], .cy (.e 0)⟩, ⟨[], [(7, false)], .bi .gtr (.e 8) (.e 9)⟩, ⟨[], [], .pk (.e 7) (.c (.b true)) (.e 10)⟩] [some 0, some 1, none, none, none, some 11, none])
 (.cond 5 ((.seq (.reg [⟨[], [], .cs .v (.n 0)⟩] [none, none, some 7, none, none, none, none])
  (.ret))) (.skip))))
 ((.seq (.reg [⟨[], [], .cs .v (.n 1)⟩] [some 0, some 1, none, some 7, none, none, none])
 ((.seq ((.seq (.reg [⟨[], [], .cs .v (.n 1)⟩] [some 0, some 1, none, some 3, some 7, none, none])
 (.block 0 (.loop ((.seq ((.seq (.reg [⟨[], [], .nop⟩, ⟨[], [], .nop⟩, ⟨[], [], .bi .leq (.e 4) (.e 1)⟩] [some 0, some 1, none, some 3, some 4, none, some 7])
   (.cond 6 (.skip) (.exit 0))))
   ((.seq (.block 1 (.reg [⟨[], [], .nop⟩, ⟨[], [], .nop⟩, ⟨[], [], .nop⟩, ⟨[], [], .bi .sub (.e 0) (.e 1)⟩, ⟨[], [], .nop⟩, ⟨[], [], .bi .add (.e 7) (.e 4)⟩, ⟨[], [], .bi .mul (.e 3) (.e 8)⟩, ⟨[], [], .nop⟩, ⟨[], [], .bi .quo (.e 9) (.e 4)⟩, ⟨[], [], .nop⟩] [some 0, some 1, none, some 10, some 4, none, none]))
   (.reg [⟨[], [], .nop⟩, ⟨[], [], .bi .add (.e 4) (.c (.n 1))⟩, ⟨[], [], .nop⟩] [some 0, some 1, none, some 3, some 7, none, none])))))))))
 ((.seq (.reg [⟨[], [], .nop⟩, ⟨[], [], .nop⟩] [none, none, some 3, none, none, none, none])
 (.ret))))))))))⟩

end Go.Cat

namespace Go.Cat
/-- loop.example/g03401/impl.BinomialTransform -/
def ir_impl_BinomialTransform : IF := ⟨[], 1, 12, [1, 2],
 (.seq (.reg [⟨[], [], .cs (.o .v) (.l [])⟩, ⟨[], [], .cs .v (.b false)⟩] [some 0, none, none, none, none, none, none, none, none, none, none, none])
 ((.seq (.reg [⟨[], [], .li (.o .v) []⟩, ⟨[], [], .nop⟩] [some 0, none, none, some 12, none, none, none, none, none, none, none, none])
 ((.seq ((.seq (.reg [⟨[], [], .nop⟩, ⟨[], [], .ca 70 [(.e 0)] 1⟩, ⟨[], [], .un .not (.e 12)⟩] [some 0, none, none, some 3, none, none, none, some 13, none, none, none, none])
 (.cond 7 ((.seq (.reg [⟨[], [], .nop⟩, ⟨[], [], .nop⟩, ⟨[], [], .cs .v (.b false)⟩] [none, some 3, some 12, none, none, none, none, none, none, none, none, none])
  (.ret))) (.skip))))
 ((.seq ((.seq (.reg [⟨[], [], .nop⟩, ⟨[], [], .ln (.e 0) []⟩, ⟨[], [], .cs .v (.n 0)⟩] [some 0, none, none, some 3, none, none, none, none, some 12, some 13, none, none])
 (.block 0 (.loop ((.seq (.reg [⟨[], [], .bi .lss (.e 9) (.e 8)⟩] [some 0, none, none, some 3, none, none, none, none, some 8, some 9, some 12, none])
   ((.seq (.cond 10 (.skip) (.exit 0))
   ((.seq (.block 1 ((.seq (.reg [⟨[], [], .nop⟩, ⟨[], [], .nop⟩] [some 0, none, none, some 3, some 9, none, none, none, some 8, some 9, none, none])
    ((.seq (.reg [⟨[], [], .cs .v (.n 0)⟩] [some 0, none, none, some 3, some 4, some 12, none, none, some 8, some 9, none, none])
    ((.seq ((.seq (.reg [⟨[], [], .cs .v (.n 0)⟩] [some 0, none, none, some 3, some 4, some 5, some 12, none, some 8, some 9, none, none])
    (.block 2 (.loop ((.seq ((.seq (.reg [⟨[], [], .nop⟩, ⟨[], [], .nop⟩, ⟨[], [], .bi .leq (.e 6) (.e 4)⟩] [some 0, none, none, some 3, some 4, some 5, some 6, none, some 8, some 9, none, some 12])
      (.cond 11 (.skip) (.exit 2))))
      ((.seq (.block 3 (.reg [⟨[], [], .nop⟩, ⟨[], [], .nop⟩, ⟨[], [], .nop⟩, ⟨[], [], .ca 25 [(.e 4), (.e 6)] 1⟩, ⟨[], [], .nop⟩, ⟨[], [], .nop⟩, ⟨[], [], .iy (.e 0) (.e 6)⟩, ⟨[], [], .nop⟩, ⟨[], [], .bi .mul (.e 12) (.e 13)⟩, ⟨[], [], .bi .add (.e 5) (.e 14)⟩, ⟨[], [], .nop⟩] [some 0, none, none, some 3, some 4, some 15, some 6, none, some 8, some 9, none, none]))
      (.reg [⟨[], [], .nop⟩, ⟨[], [], .bi .add (.e 6) (.c (.n 1))⟩, ⟨[], [], .nop⟩] [some 0, none, none, some 3, some 4, some 5, some 12, none, some 8, some 9, none, none])))))))))
    (.reg [⟨[], [], .nop⟩, ⟨[], [], .nop⟩, ⟨[], [], .li (.o .v) [(.e 5)]⟩, ⟨[], [], .ap false (.e 3) (.e 12)⟩, ⟨[], [], .nop⟩] [some 0, none, none, some 13, none, none, none, none, some 8, some 9, none, none]))))))))
   (.reg [⟨[], [], .bi .add (.e 9) (.c (.n 1))⟩, ⟨[], [], .nop⟩] [some 0, none, none, some 3, none, none, none, none, some 8, some 12, none, none])))))))))))
 ((.seq (.reg [⟨[], [], .nop⟩, ⟨[], [], .nop⟩, ⟨[], [], .cs .v (.b true)⟩] [none, some 3, some 12, none, none, none, none, none, none, none, none, none])
 (.ret))))))))))⟩

/-- loop.example/g03401/impl.CatalanSeries -/
def ir_impl_CatalanSeries : IF := ⟨[], 1, 9, [1, 2],
 (.seq (.reg [⟨[], [], .cs (.o .v) (.l [])⟩, ⟨[], [], .cs .v (.b false)⟩] [some 0, none, none, none, none, none, none, none, none])
 ((.seq (.reg [⟨[], [], .li (.o .v) []⟩, ⟨[], [], .nop⟩] [some 0, none, none, some 9, none, none, none, none, none])
 ((.seq ((.seq (.reg [⟨[], [], .nop⟩, ⟨[], [], .ca 23 [(.e 0), (.c (.n 1)), (.c (.n 12))] 1⟩, ⟨[], [], .un .not (.e 9)⟩] [some 0, none, none, some 3, none, some 10, none, none, none])
 (.cond 5 ((.seq (.reg [⟨[], [], .nop⟩, ⟨[], [], .nop⟩, ⟨[], [], .cs .v (.b false)⟩] [none, some 3, some 9, none, none, none, none, none, none])
  (.ret))) (.skip))))
 ((.seq ((.seq (.reg [⟨[], [], .nop⟩, ⟨[], [], .cs .v (.n 0)⟩] [none, none, none, some 3, none, none, some 0, some 9, none])
 (.block 0 (.loop ((.seq (.reg [⟨[], [], .bi .lss (.e 7) (.e 6)⟩] [none, none, none, some 3, none, none, some 6, some 7, some 9])
   ((.seq (.cond 8 (.skip) (.exit 0))
   ((.seq (.block 1 ((.seq (.reg [⟨[], [], .nop⟩, ⟨[], [], .nop⟩] [none, none, none, some 3, some 7, none, some 6, some 7, none])
    (.reg [⟨[], [], .nop⟩, ⟨[], [], .nop⟩, ⟨[], [], .ca 28 [(.e 4)] 1⟩, ⟨[], [], .li (.o .v) [(.e 9)]⟩, ⟨[], [], .ap false (.e 3) (.e 10)⟩, ⟨[], [], .nop⟩] [none, none, none, some 11, none, none, some 6, some 7, none]))))
   (.reg [⟨[], [], .bi .add (.e 7) (.c (.n 1))⟩, ⟨[], [], .nop⟩] [none, none, none, some 3, none, none, some 6, some 9, none])))))))))))
 ((.seq (.reg [⟨[], [], .nop⟩, ⟨[], [], .nop⟩, ⟨[], [], .cs .v (.b true)⟩] [none, some 3, some 9, none, none, none, none, none, none])
 (.ret))))))))))⟩

/-- loop.example/g03401/impl.HankelOf -/
def ir_impl_HankelOf : IF := ⟨[], 3, 18, [3, 4],
 (.seq (.reg [⟨[], [], .cs .v (.n 0)⟩, ⟨[], [], .cs .v (.b false)⟩] [some 0, some 1, some 2, none, none, none, none, none, none, none, none, none, none, none, none, none, none, none])
 ((.seq ((.seq (.reg [⟨[], [], .nop⟩, ⟨[], [], .ca 70 [(.e 0)] 1⟩, ⟨[], [], .un .not (.e 18)⟩, ⟨[], [], .nop⟩, ⟨[], [(19, false)], .cy (.e 1)⟩, ⟨[], [(19, false)], .ca 23 [(.e 20), (.c (.n 0)), (.c (.n 4))] 1⟩, ⟨[], [(19, false)], .un .not (.e 21)⟩, ⟨[], [], .pk (.e 19) (.c (.b true)) (.e 22)⟩, ⟨[], [], .nop⟩, ⟨[], [(23, false)], .cy (.e 2)⟩, ⟨[], [(23, false)], .ca 23 [(.e 24), (.c (.n 0)), (.c (.n 2))] 1⟩, ⟨[], [(23, false)], .un .not (.e 25)⟩, ⟨[], [], .pk (.e 23) (.c (.b true)) (.e 26)⟩] [some 0, some 1, some 2, none, none, none, none, none, none, none, some 27, none, none, none, none, none, none, none])
 (.cond 10 ((.seq (.reg [⟨[], [], .cs .v (.n 0)⟩, ⟨[], [], .cs .v (.b false)⟩] [none, none, none, some 18, some 19, none, none, none, none, none, none, none, none, none, none, none, none, none])
  (.ret))) (.skip))))
 ((.seq (.reg [⟨[], [], .li (.o .v) []⟩, ⟨[], [], .nop⟩] [some 0, some 1, some 2, none, none, some 18, none, none, none, none, none, none, none, none, none, none, none, none])
 ((.seq ((.seq (.reg [⟨[], [], .nop⟩, ⟨[], [], .cs .v (.n 0)⟩] [some 0, some 1, some 2, none, none, some 5, none, none, none, none, none, some 1, some 18, none, none, none, none, none])
 (.block 0 (.loop ((.seq (.reg [⟨[], [], .bi .lss (.e 12) (.e 11)⟩] [some 0, some 1, some 2, none, none, some 5, none, none, none, none, none, some 11, some 12, some 18, none, none, none, none])
   ((.seq (.cond 13 (.skip) (.exit 0))
   ((.seq (.block 1 ((.seq (.reg [⟨[], [], .nop⟩, ⟨[], [], .nop⟩] [some 0, some 1, some 2, none, none, some 5, some 12, none, none, none, none, some 11, some 12, none, none, none, none, none])
    ((.seq (.reg [⟨[], [], .li (.o .v) []⟩, ⟨[], [], .nop⟩] [some 0, some 1, some 2, none, none, some 5, some 6, some 18, none, none, none, some 11, some 12, none, none, none, none, none])
    ((.seq ((.seq (.reg [⟨[], [], .nop⟩, ⟨[], [], .cs .v (.n 0)⟩] [some 0, some 1, some 2, none, none, some 5, some 6, some 7, none, none, none, some 11, some 12, none, some 1, some 18, none, none])
    (.block 2 (.loop ((.seq (.reg [⟨[], [], .bi .lss (.e 15) (.e 14)⟩] [some 0, some 1, some 2, none, none, some 5, some 6, some 7, none, none, none, some 11, some 12, none, some 14, some 15, some 18, none])
      ((.seq (.cond 16 (.skip) (.exit 2))
      ((.seq (.block 3 ((.seq (.reg [⟨[], [], .nop⟩, ⟨[], [], .nop⟩] [some 0, some 1, some 2, none, none, some 5, some 6, some 7, some 15, none, none, some 11, some 12, none, some 14, some 15, none, none])
       ((.seq (.reg [⟨[], [], .nop⟩, ⟨[], [], .nop⟩, ⟨[], [], .bi .add (.e 6) (.e 8)⟩, ⟨[], [], .nop⟩, ⟨[], [], .bi .add (.e 18) (.e 2)⟩, ⟨[], [], .nop⟩] [some 0, some 1, some 2, none, none, some 5, some 6, some 7, none, some 19, none, some 11, some 12, none, some 14, some 15, none, none])
       ((.seq ((.seq (.reg [⟨[], [], .nop⟩, ⟨[], [], .nop⟩, ⟨[], [], .ln (.e 0) []⟩, ⟨[], [], .bi .geq (.e 9) (.e 18)⟩, ⟨[], [], .nop⟩, ⟨[], [(19, false)], .nop⟩, ⟨[], [(19, false)], .cy (.e 9)⟩, ⟨[], [(19, false)], .iy (.e 0) (.e 20)⟩, ⟨[], [(19, false)], .nop⟩, ⟨[], [(19, false)], .ca 23 [(.e 21), (.c (.n (-1000))), (.c (.n 1000))] 1⟩, ⟨[], [(19, false)], .un .not (.e 22)⟩, ⟨[], [], .pk (.e 19) (.c (.b true)) (.e 23)⟩] [some 0, some 1, some 2, none, none, some 5, some 6, some 7, none, some 9, none, some 11, some 12, none, some 14, some 15, none, some 24])
       (.cond 17 ((.seq (.reg [⟨[], [], .cs .v (.n 0)⟩, ⟨[], [], .cs .v (.b false)⟩] [none, none, none, some 18, some 19, none, none, none, none, none, none, none, none, none, none, none, none, none])
        (.ret))) (.skip))))
       (.reg [⟨[], [], .nop⟩, ⟨[], [], .nop⟩, ⟨[], [], .nop⟩, ⟨[], [], .iy (.e 0) (.e 9)⟩, ⟨[], [], .nop⟩, ⟨[], [], .li (.o .v) [(.e 18)]⟩, ⟨[], [], .ap false (.e 7) (.e 19)⟩, ⟨[], [], .nop⟩] [some 0, some 1, some 2, none, none, some 5, some 6, some 20, none, none, none, some 11, some 12, none, some 14, some 15, none, none]))))))))
      (.reg [⟨[], [], .bi .add (.e 15) (.c (.n 1))⟩, ⟨[], [], .nop⟩] [some 0, some 1, some 2, none, none, some 5, some 6, some 7, none, none, none, some 11, some 12, none, some 14, some 18, none, none])))))))))))
    (.reg [⟨[], [], .nop⟩, ⟨[], [], .nop⟩, ⟨[], [], .li (.o .v) [(.e 7)]⟩, ⟨[], [], .ap false (.e 5) (.e 18)⟩, ⟨[], [], .nop⟩] [some 0, some 1, some 2, none, none, some 19, none, none, none, none, none, some 11, some 12, none, none, none, none, none]))))))))
   (.reg [⟨[], [], .bi .add (.e 12) (.c (.n 1))⟩, ⟨[], [], .nop⟩] [some 0, some 1, some 2, none, none, some 5, none, none, none, none, none, some 11, some 18, none, none, none, none, none])))))))))))
 ((.seq (.reg [⟨[], [], .nop⟩, ⟨[], [], .ca 127 [(.e 5)] 1⟩, ⟨[], [], .nop⟩, ⟨[], [], .cs .v (.b true)⟩] [none, none, none, some 18, some 19, none, none, none, none, none, none, none, none, none, none, none, none, none])
 (.ret))))))))))⟩

/-- loop.example/g03401/impl.InverseSeries -/
def ir_impl_InverseSeries : IF := ⟨[], 1, 10, [1, 2],
 (.seq (.reg [⟨[], [], .cs (.o .v) (.l [])⟩, ⟨[], [], .cs .v (.b false)⟩] [some 0, none, none, none, none, none, none, none, none, none])
 ((.seq ((.seq (.reg [⟨[], [], .nop⟩, ⟨[], [], .ca 70 [(.e 0)] 1⟩, ⟨[], [], .un .not (.e 10)⟩, ⟨[], [], .nop⟩, ⟨[], [(11, false)], .nop⟩, ⟨[], [(11, false)], .iy (.e 0) (.c (.n 0))⟩, ⟨[], [(11, false)], .nop⟩, ⟨[], [(11, false)], .bi .neq (.e 12) (.c (.n 1))⟩, ⟨[], [(11, false)], .cy (.e 13)⟩, ⟨[], [(11, false), (14, true)], .nop⟩, ⟨[], [(11, false), (14, true)], .iy (.e 0) (.c (.n 0))⟩, ⟨[], [(11, false), (14, true)], .nop⟩, ⟨[], [(11, false), (14, true)], .bi .neq (.e 15) (.c (.n (-1)))⟩, ⟨[], [(11, false)], .pk (.e 14) (.e 16) (.c (.b false))⟩, ⟨[], [], .pk (.e 11) (.c (.b true)) (.e 17)⟩, ⟨[], [], .nop⟩, ⟨[], [(18, false)], .nop⟩, ⟨[], [(18, false)], .ca 78 [(.e 0), (.c (.n (-10))), (.c (.n 10))] 1⟩, ⟨[], [(18, false)], .un .not (.e 19)⟩, ⟨[], [], .pk (.e 18) (.c (.b true)) (.e 20)⟩] [some 0, none, none, none, none, none, none, some 21, none, none])
 (.cond 7 ((.seq (.reg [⟨[], [], .li (.o .v) []⟩, ⟨[], [], .nop⟩, ⟨[], [], .cs .v (.b false)⟩] [none, some 10, some 11, none, none, none, none, none, none, none])
  (.ret))) (.skip))))
 ((.seq (.reg [⟨[], [], .nop⟩, ⟨[], [], .iy (.e 0) (.c (.n 0))⟩, ⟨[], [], .nop⟩, ⟨[], [], .li (.o .v) [(.e 10)]⟩, ⟨[], [], .nop⟩] [some 0, none, none, some 11, none, none, none, none, none, none])
 ((.seq ((.seq (.reg [⟨[], [], .cs .v (.n 1)⟩] [some 0, none, none, some 3, some 10, none, none, none, none, none])
 (.block 0 (.loop ((.seq ((.seq (.reg [⟨[], [], .nop⟩, ⟨[], [], .nop⟩, ⟨[], [], .ln (.e 0) []⟩, ⟨[], [], .bi .lss (.e 4) (.e 10)⟩] [some 0, none, none, some 3, some 4, none, none, none, some 11, none])
   (.cond 8 (.skip) (.exit 0))))
   ((.seq (.block 1 ((.seq (.reg [⟨[], [], .cs .v (.n 0)⟩] [some 0, none, none, some 3, some 4, some 10, none, none, none, none])
    ((.seq ((.seq (.reg [⟨[], [], .cs .v (.n 1)⟩] [some 0, none, none, some 3, some 4, some 5, some 10, none, none, none])
    (.block 2 (.loop ((.seq ((.seq (.reg [⟨[], [], .nop⟩, ⟨[], [], .nop⟩, ⟨[], [], .bi .leq (.e 6) (.e 4)⟩] [some 0, none, none, some 3, some 4, some 5, some 6, none, none, some 10])
      (.cond 9 (.skip) (.exit 2))))
      ((.seq (.block 3 (.reg [⟨[], [], .nop⟩, ⟨[], [], .nop⟩, ⟨[], [], .nop⟩, ⟨[], [], .iy (.e 0) (.e 6)⟩, ⟨[], [], .nop⟩, ⟨[], [], .nop⟩, ⟨[], [], .nop⟩, ⟨[], [], .nop⟩, ⟨[], [], .bi .sub (.e 4) (.e 6)⟩, ⟨[], [], .ix (.e 3) [] (.e 11)⟩, ⟨[], [], .nop⟩, ⟨[], [], .bi .mul (.e 10) (.e 12)⟩, ⟨[], [], .bi .sub (.e 5) (.e 13)⟩, ⟨[], [], .nop⟩] [some 0, none, none, some 3, some 4, some 14, some 6, none, none, none]))
      (.reg [⟨[], [], .nop⟩, ⟨[], [], .bi .add (.e 6) (.c (.n 1))⟩, ⟨[], [], .nop⟩] [some 0, none, none, some 3, some 4, some 5, some 10, none, none, none])))))))))
    (.reg [⟨[], [], .nop⟩, ⟨[], [], .nop⟩, ⟨[], [], .nop⟩, ⟨[], [], .iy (.e 0) (.c (.n 0))⟩, ⟨[], [], .nop⟩, ⟨[], [], .bi .mul (.e 5) (.e 10)⟩, ⟨[], [], .li (.o .v) [(.e 11)]⟩, ⟨[], [], .ap false (.e 3) (.e 12)⟩, ⟨[], [], .nop⟩] [some 0, none, none, some 13, some 4, none, none, none, none, none]))))))
   (.reg [⟨[], [], .nop⟩, ⟨[], [], .bi .add (.e 4) (.c (.n 1))⟩, ⟨[], [], .nop⟩] [some 0, none, none, some 3, some 10, none, none, none, none, none])))))))))
 ((.seq (.reg [⟨[], [], .nop⟩, ⟨[], [], .nop⟩, ⟨[], [], .cs .v (.b true)⟩] [none, some 3, some 10, none, none, none, none, none, none, none])
 (.ret))))))))))⟩

/-- loop.example/g03401/impl.MultiplySeries -/
def ir_impl_MultiplySeries : IF := ⟨[], 2, 5, [2, 3],
 (.seq (.reg [⟨[], [], .cs (.o .v) (.l [])⟩, ⟨[], [], .cs .v (.b false)⟩] [some 0, some 1, none, none, none])
 ((.seq ((.seq (.reg [⟨[], [], .nop⟩, ⟨[], [], .ca 70 [(.e 0)] 1⟩, ⟨[], [], .un .not (.e 5)⟩, ⟨[], [], .nop⟩, ⟨[], [(6, false)], .nop⟩, ⟨[], [(6, false)], .ca 70 [(.e 1)] 1⟩, ⟨[], [(6, false)], .un .not (.e 7)⟩, ⟨[], [], .pk (.e 6) (.c (.b true)) (.e 8)⟩, ⟨[], [], .nop⟩, ⟨[], [(9, false)], .nop⟩, ⟨[], [(9, false)], .ln (.e 0) []⟩, ⟨[], [(9, false)], .nop⟩, ⟨[], [(9, false)], .ln (.e 1) []⟩, ⟨[], [(9, false)], .bi .neq (.e 10) (.e 11)⟩, ⟨[], [], .pk (.e 9) (.c (.b true)) (.e 12)⟩] [some 0, some 1, none, none, some 13])
 (.cond 4 ((.seq (.reg [⟨[], [], .li (.o .v) []⟩, ⟨[], [], .nop⟩, ⟨[], [], .cs .v (.b false)⟩] [none, none, some 5, some 6, none])
  (.ret))) (.skip))))
 ((.seq (.reg [⟨[], [], .nop⟩, ⟨[], [], .nop⟩, ⟨[], [], .ca 71 [(.e 0), (.e 1)] 1⟩, ⟨[], [], .nop⟩, ⟨[], [], .cs .v (.b true)⟩] [none, none, some 5, some 6, none])
 (.ret))))))⟩

/-- loop.example/g03401/impl.ReversionOf -/
def ir_impl_ReversionOf : IF := ⟨[], 1, 12, [1, 2],
 (.seq (.reg [⟨[], [], .cs (.o .v) (.l [])⟩, ⟨[], [], .cs .v (.b false)⟩] [some 0, none, none, none, none, none, none, none, none, none, none, none])
 ((.seq ((.seq (.reg [⟨[], [], .nop⟩, ⟨[], [], .ln (.e 0) []⟩, ⟨[], [], .ca 23 [(.e 12), (.c (.n 2)), (.c (.n 8))] 1⟩, ⟨[], [], .un .not (.e 13)⟩, ⟨[], [], .nop⟩, ⟨[], [(14, false)], .nop⟩, ⟨[], [(14, false)], .ca 78 [(.e 0), (.c (.n (-3))), (.c (.n 3))] 1⟩, ⟨[], [(14, false)], .un .not (.e 15)⟩, ⟨[], [], .pk (.e 14) (.c (.b true)) (.e 16)⟩, ⟨[], [], .nop⟩, ⟨[], [(17, false)], .nop⟩, ⟨[], [(17, false)], .iy (.e 0) (.c (.n 0))⟩, ⟨[], [(17, false)], .nop⟩, ⟨[], [(17, false)], .bi .neq (.e 18) (.c (.n 0))⟩, ⟨[], [], .pk (.e 17) (.c (.b true)) (.e 19)⟩, ⟨[], [], .nop⟩, ⟨[], [(20, false)], .nop⟩, ⟨[], [(20, false)], .iy (.e 0) (.c (.n 1))⟩, ⟨[], [(20, false)], .nop⟩, ⟨[], [(20, false)], .bi .neq (.e 21) (.c (.n 1))⟩, ⟨[], [], .pk (.e 20) (.c (.b true)) (.e 22)⟩] [some 0, none, none, none, none, none, none, none, none, some 23, none, none])
 (.cond 9 ((.seq (.reg [⟨[], [], .li (.o .v) []⟩, ⟨[], [], .nop⟩, ⟨[], [], .cs .v (.b false)⟩] [none, some 12, some 13, none, none, none, none, none, none, none, none, none])
  (.ret))) (.skip))))
 ((.seq (.reg [⟨[], [], .nop⟩, ⟨[], [], .ln (.e 0) []⟩, ⟨[], [], .nop⟩] [some 0, none, none, some 12, none, none, none, none, none, none, none, none])
 ((.seq (.reg [⟨[], [], .nop⟩, ⟨[], [], .mk (.n 0) (.e 3) (.e 3)⟩, ⟨[], [], .nop⟩] [some 0, none, none, some 3, some 12, none, none, none, none, none, none, none])
 ((.seq (.reg [⟨[], [], .nop⟩, ⟨[], [], .ix (.e 4) [] (.c (.n 1))⟩, ⟨[], [], .up 4 [.k 1] (.c (.n 1))⟩] [some 0, none, none, some 3, some 13, none, none, none, none, none, none, none])
 ((.seq ((.seq (.reg [⟨[], [], .cs .v (.n 2)⟩] [some 0, none, none, some 3, some 4, some 12, none, none, none, none, none, none])
 (.block 0 (.loop ((.seq ((.seq (.reg [⟨[], [], .nop⟩, ⟨[], [], .nop⟩, ⟨[], [], .bi .lss (.e 5) (.e 3)⟩] [some 0, none, none, some 3, some 4, some 5, none, none, none, none, some 12, none])
   (.cond 10 (.skip) (.exit 0))))
   ((.seq (.block 1 ((.seq (.reg [⟨[], [], .nop⟩, ⟨[], [], .mk (.n 0) (.e 3) (.e 3)⟩, ⟨[], [], .nop⟩] [some 0, none, none, some 3, some 4, some 5, some 12, none, none, none, none, none])
    ((.seq (.reg [⟨[], [], .nop⟩, ⟨[], [], .ix (.e 6) [] (.c (.n 0))⟩, ⟨[], [], .up 6 [.k 0] (.c (.n 1))⟩] [some 0, none, none, some 3, some 4, some 5, some 13, none, none, none, none, none])
    ((.seq (.reg [⟨[], [], .cs .v (.n 0)⟩] [some 0, none, none, some 3, some 4, some 5, some 6, some 12, none, none, none, none])
    ((.seq ((.seq (.reg [⟨[], [], .cs .v (.n 1)⟩] [some 0, none, none, some 3, some 4, some 5, some 6, some 7, some 12, none, none, none])
    (.block 2 (.loop ((.seq ((.seq (.reg [⟨[], [], .nop⟩, ⟨[], [], .nop⟩, ⟨[], [], .bi .lss (.e 8) (.e 3)⟩] [some 0, none, none, some 3, some 4, some 5, some 6, some 7, some 8, none, none, some 12])
      (.cond 11 (.skip) (.exit 2))))
      ((.seq (.block 3 ((.seq (.reg [⟨[], [], .nop⟩, ⟨[], [], .nop⟩, ⟨[], [], .ca 71 [(.e 6), (.e 4)] 1⟩, ⟨[], [], .nop⟩] [some 0, none, none, some 3, some 4, some 5, some 12, some 7, some 8, none, none, none])
       (.reg [⟨[], [], .nop⟩, ⟨[], [], .nop⟩, ⟨[], [], .nop⟩, ⟨[], [], .iy (.e 0) (.e 8)⟩, ⟨[], [], .nop⟩, ⟨[], [], .nop⟩, ⟨[], [], .nop⟩, ⟨[], [], .ix (.e 6) [] (.e 5)⟩, ⟨[], [], .nop⟩, ⟨[], [], .bi .mul (.e 12) (.e 13)⟩, ⟨[], [], .bi .add (.e 7) (.e 14)⟩, ⟨[], [], .nop⟩] [some 0, none, none, some 3, some 4, some 5, some 6, some 15, some 8, none, none, none]))))
      (.reg [⟨[], [], .nop⟩, ⟨[], [], .bi .add (.e 8) (.c (.n 1))⟩, ⟨[], [], .nop⟩] [some 0, none, none, some 3, some 4, some 5, some 6, some 7, some 12, none, none, none])))))))))
    (.reg [⟨[], [], .nop⟩, ⟨[], [], .nop⟩, ⟨[], [], .nop⟩, ⟨[], [], .un .neg (.e 7)⟩, ⟨[], [], .ix (.e 4) [] (.e 5)⟩, ⟨[], [], .up 4 [.e 5] (.e 12)⟩] [some 0, none, none, some 3, some 14, some 5, none, none, none, none, none, none]))))))))))
   (.reg [⟨[], [], .nop⟩, ⟨[], [], .bi .add (.e 5) (.c (.n 1))⟩, ⟨[], [], .nop⟩] [some 0, none, none, some 3, some 4, some 12, none, none, none, none, none, none])))))))))
 ((.seq (.reg [⟨[], [], .nop⟩, ⟨[], [], .nop⟩, ⟨[], [], .cs .v (.b true)⟩] [none, some 4, some 12, none, none, none, none, none, none, none, none, none])
 (.ret))))))))))))))⟩

/-- loop.example/g03401/impl.SatisfiesCatalan -/
def ir_impl_SatisfiesCatalan : IF := ⟨[], 1, 4, [1],
 (.seq (.reg [⟨[], [], .cs .v (.b false)⟩] [some 0, none, none, none])
 ((.seq ((.seq (.reg [⟨[], [], .nop⟩, ⟨[], [], .ca 70 [(.e 0)] 1⟩, ⟨[], [], .un .not (.e 4)⟩, ⟨[], [], .nop⟩, ⟨[], [(5, false)], .nop⟩, ⟨[], [(5, false)], .iy (.e 0) (.c (.n 0))⟩, ⟨[], [(5, false)], .nop⟩, ⟨[], [(5, false)], .bi .neq (.e 6) (.c (.n 1))⟩, ⟨[], [], .pk (.e 5) (.c (.b true)) (.e 7)⟩] [some 0, none, none, some 8])
 (.cond 3 ((.seq (.reg [⟨[], [], .cs .v (.b false)⟩] [none, some 4, none, none])
  (.ret))) (.skip))))
 ((.seq (.reg [⟨[], [], .nop⟩, ⟨[], [], .nop⟩, ⟨[], [], .ca 71 [(.e 0), (.e 0)] 1⟩, ⟨[], [], .nop⟩] [some 0, none, some 4, none])
 ((.seq (.reg [⟨[], [], .nop⟩, ⟨[], [], .sb false (.e 0) (some (.c (.n 1))) none⟩, ⟨[], [], .nop⟩, ⟨[], [], .nop⟩, ⟨[], [], .ln (.e 0) []⟩, ⟨[], [], .bi .sub (.e 5) (.c (.n 1))⟩, ⟨[], [], .sb false (.e 2) none (some (.e 6))⟩, ⟨[], [], .ca 72 [(.e 4), (.e 7)] 1⟩, ⟨[], [], .nop⟩] [none, some 8, none, none])
 (.ret))))))))⟩

/-- loop.example/g03401/impl.areTerms -/
def ir_impl_areTerms : IF := ⟨[], 1, 8, [1],
 (.seq (.reg [⟨[], [], .cs .v (.b false)⟩] [some 0, none, none, none, none, none, none, none])
 ((.seq ((.seq (.reg [⟨[], [], .nop⟩, ⟨[], [], .ln (.e 0) []⟩, ⟨[], [], .cs .v (.n 0)⟩] [some 0, none, none, some 0, some 8, some 9, none, none])
 (.block 0 (.loop ((.seq (.reg [⟨[], [], .bi .lss (.e 5) (.e 4)⟩] [some 0, none, none, some 3, some 4, some 5, some 8, none])
   ((.seq (.cond 6 (.skip) (.exit 0))
   ((.seq (.block 1 ((.seq (.reg [⟨[], [], .iy (.e 3) (.e 5)⟩, ⟨[], [], .nop⟩, ⟨[], [], .nop⟩] [some 0, none, some 8, some 3, some 4, some 5, none, none])
    ((.seq (.reg [⟨[], [], .nop⟩, ⟨[], [], .ca 23 [(.e 2), (.c (.n (-1000000))), (.c (.n 1000000))] 1⟩, ⟨[], [], .un .not (.e 8)⟩] [some 0, none, none, some 3, some 4, some 5, none, some 9])
    (.cond 7 ((.seq (.reg [⟨[], [], .cs .v (.b false)⟩] [none, some 8, none, none, none, none, none, none])
     (.ret))) (.skip)))))))
   (.reg [⟨[], [], .bi .add (.e 5) (.c (.n 1))⟩, ⟨[], [], .nop⟩] [some 0, none, none, some 3, some 4, some 8, none, none])))))))))))
 ((.seq (.reg [⟨[], [], .nop⟩, ⟨[], [], .ln (.e 0) []⟩, ⟨[], [], .ca 23 [(.e 8), (.c (.n 1)), (.c (.n 12))] 1⟩, ⟨[], [], .nop⟩] [none, some 9, none, none, none, none, none, none])
 (.ret))))))⟩

/-- loop.example/g03401/impl.areWithin -/
def ir_impl_areWithin : IF := ⟨[], 3, 10, [3],
 (.seq (.reg [⟨[], [], .cs .v (.b false)⟩] [some 0, some 1, some 2, none, none, none, none, none, none, none])
 ((.seq ((.seq (.reg [⟨[], [], .nop⟩, ⟨[], [], .ln (.e 0) []⟩, ⟨[], [], .cs .v (.n 0)⟩] [none, some 1, some 2, none, none, some 0, some 10, some 11, none, none])
 (.block 0 (.loop ((.seq (.reg [⟨[], [], .bi .lss (.e 7) (.e 6)⟩] [none, some 1, some 2, none, none, some 5, some 6, some 7, some 10, none])
   ((.seq (.cond 8 (.skip) (.exit 0))
   ((.seq (.block 1 ((.seq (.reg [⟨[], [], .iy (.e 5) (.e 7)⟩, ⟨[], [], .nop⟩, ⟨[], [], .nop⟩] [none, some 1, some 2, none, some 10, some 5, some 6, some 7, none, none])
    ((.seq (.reg [⟨[], [], .nop⟩, ⟨[], [], .nop⟩, ⟨[], [], .nop⟩, ⟨[], [], .ca 23 [(.e 4), (.e 1), (.e 2)] 1⟩, ⟨[], [], .un .not (.e 10)⟩] [none, some 1, some 2, none, none, some 5, some 6, some 7, none, some 11])
    (.cond 9 ((.seq (.reg [⟨[], [], .cs .v (.b false)⟩] [none, none, none, some 10, none, none, none, none, none, none])
     (.ret))) (.skip)))))))
   (.reg [⟨[], [], .bi .add (.e 7) (.c (.n 1))⟩, ⟨[], [], .nop⟩] [none, some 1, some 2, none, none, some 5, some 6, some 10, none, none])))))))))))
 ((.seq (.reg [⟨[], [], .cs .v (.b true)⟩] [none, none, none, some 10, none, none, none, none, none, none])
 (.ret))))))⟩

/-- loop.example/g03401/impl.determinant -/
def ir_impl_determinant : IF := ⟨[], 1, 17, [1],
 (.seq (.reg [⟨[], [], .cs .v (.n 0)⟩] [some 0, none, none, none, none, none, none, none, none, none, none, none, none, none, none, none, none])
 ((.seq ((.seq (.reg [⟨[], [], .nop⟩, ⟨[], [], .ln (.e 0) []⟩, ⟨[], [], .bi .eql (.e 17) (.c (.n 0))⟩] [some 0, none, none, none, none, none, none, some 18, none, none, none, none, none, none, none, none, none])
 (.cond 7 ((.seq (.reg [⟨[], [], .cs .v (.n 1)⟩] [none, some 17, none, none, none, none, none, none, none, none, none, none, none, none, none, none, none])
  (.ret))) (.skip))))
 ((.seq (.reg [⟨[], [], .cs .v (.n 0)⟩] [some 0, none, some 17, none, none, none, none, none, none, none, none, none, none, none, none, none, none])
 ((.seq ((.seq (.reg [⟨[], [], .nop⟩, ⟨[], [], .ix (.e 0) [] (.c (.n 0))⟩, ⟨[], [], .nop⟩, ⟨[], [], .ln (.e 17) []⟩, ⟨[], [], .cs .v (.n 0)⟩] [some 0, none, some 2, none, none, none, none, none, some 17, some 18, some 19, none, none, none, none, none, none])
 (.block 0 (.loop ((.seq (.reg [⟨[], [], .bi .lss (.e 10) (.e 9)⟩] [some 0, none, some 2, none, none, none, none, none, some 8, some 9, some 10, some 17, none, none, none, none, none])
   ((.seq (.cond 11 (.skip) (.exit 0))
   ((.seq (.block 1 ((.seq (.reg [⟨[], [], .nop⟩, ⟨[], [], .iy (.e 8) (.e 10)⟩, ⟨[], [], .nop⟩, ⟨[], [], .nop⟩, ⟨[], [], .nop⟩] [some 0, none, some 2, some 10, some 17, none, none, none, some 8, some 9, some 10, none, none, none, none, none, none])
    ((.seq (.reg [⟨[], [], .li (.o .v) []⟩, ⟨[], [], .nop⟩] [some 0, none, some 2, some 3, some 4, some 17, none, none, some 8, some 9, some 10, none, none, none, none, none, none])
    ((.seq ((.seq (.reg [⟨[], [], .nop⟩, ⟨[], [], .sb false (.e 0) (some (.c (.n 1))) none⟩, ⟨[], [], .ln (.e 17) []⟩, ⟨[], [], .cs .v (.n 0)⟩] [some 0, none, some 2, some 3, some 4, some 5, none, none, some 8, some 9, some 10, none, some 17, some 18, some 19, none, none])
    (.block 2 (.loop ((.seq (.reg [⟨[], [], .bi .lss (.e 14) (.e 13)⟩] [some 0, none, some 2, some 3, some 4, some 5, none, none, some 8, some 9, some 10, none, some 12, some 13, some 14, some 17, none])
      ((.seq (.cond 15 (.skip) (.exit 2))
      ((.seq (.block 3 ((.seq (.reg [⟨[], [], .ix (.e 12) [] (.e 14)⟩, ⟨[], [], .nop⟩, ⟨[], [], .nop⟩] [some 0, none, some 2, some 3, some 4, some 5, some 17, none, some 8, some 9, some 10, none, some 12, some 13, some 14, none, none])
       (.reg [⟨[], [], .nop⟩, ⟨[], [], .nop⟩, ⟨[], [], .nop⟩, ⟨[], [], .sb false (.e 6) none (some (.e 3))⟩, ⟨[], [], .ca 75 [(.e 17)] 1⟩, ⟨[], [], .nop⟩, ⟨[], [], .nop⟩, ⟨[], [], .bi .add (.e 3) (.c (.n 1))⟩, ⟨[], [], .sb false (.e 6) (some (.e 19)) none⟩, ⟨[], [], .ap true (.e 18) (.e 20)⟩, ⟨[], [], .li (.o .v) [(.e 21)]⟩, ⟨[], [], .ap false (.e 5) (.e 22)⟩, ⟨[], [], .nop⟩] [some 0, none, some 2, some 3, some 4, some 23, none, none, some 8, some 9, some 10, none, some 12, some 13, some 14, none, none]))))
      (.reg [⟨[], [], .bi .add (.e 14) (.c (.n 1))⟩, ⟨[], [], .nop⟩] [some 0, none, some 2, some 3, some 4, some 5, none, none, some 8, some 9, some 10, none, some 12, some 13, some 17, none, none])))))))))))
    ((.seq ((.seq (.reg [⟨[], [], .nop⟩, ⟨[], [], .bi .rem (.e 3) (.c (.n 2))⟩, ⟨[], [], .bi .eql (.e 17) (.c (.n 1))⟩] [some 0, none, some 2, none, some 4, some 5, none, none, some 8, some 9, some 10, none, none, none, none, none, some 18])
    (.cond 16 (.reg [⟨[], [], .nop⟩, ⟨[], [], .un .neg (.e 4)⟩, ⟨[], [], .nop⟩] [some 0, none, some 2, none, some 17, some 5, none, none, some 8, some 9, some 10, none, none, none, none, none, none]) (.skip))))
    (.reg [⟨[], [], .nop⟩, ⟨[], [], .nop⟩, ⟨[], [], .nop⟩, ⟨[], [], .ca 127 [(.e 5)] 1⟩, ⟨[], [], .bi .mul (.e 4) (.e 17)⟩, ⟨[], [], .bi .add (.e 2) (.e 18)⟩, ⟨[], [], .nop⟩] [some 0, none, some 19, none, none, none, none, none, some 8, some 9, some 10, none, none, none, none, none, none]))))))))))
   (.reg [⟨[], [], .bi .add (.e 10) (.c (.n 1))⟩, ⟨[], [], .nop⟩] [some 0, none, some 2, none, none, none, none, none, some 8, some 9, some 17, none, none, none, none, none, none])))))))))))
 ((.seq (.reg [⟨[], [], .nop⟩, ⟨[], [], .nop⟩] [none, some 2, none, none, none, none, none, none, none, none, none, none, none, none, none, none, none])
 (.ret))))))))))⟩

/-- loop.example/g03401/impl.times -/
def ir_impl_times : IF := ⟨[], 2, 10, [2],
 (.seq (.reg [⟨[], [], .cs (.o .v) (.l [])⟩] [some 0, some 1, none, none, none, none, none, none, none, none])
 ((.seq (.reg [⟨[], [], .nop⟩, ⟨[], [], .ln (.e 0) []⟩, ⟨[], [], .mk (.n 0) (.e 10) (.e 10)⟩, ⟨[], [], .nop⟩] [some 0, some 1, none, some 11, none, none, none, none, none, none])
 ((.seq ((.seq (.reg [⟨[], [], .nop⟩, ⟨[], [], .ln (.e 0) []⟩, ⟨[], [], .cs .v (.n 0)⟩] [some 0, some 1, none, some 3, none, none, some 10, some 11, none, none])
 (.block 0 (.loop ((.seq (.reg [⟨[], [], .bi .lss (.e 7) (.e 6)⟩] [some 0, some 1, none, some 3, none, none, some 6, some 7, some 10, none])
   ((.seq (.cond 8 (.skip) (.exit 0))
   ((.seq (.block 1 ((.seq (.reg [⟨[], [], .nop⟩, ⟨[], [], .nop⟩] [some 0, some 1, none, some 3, some 7, none, some 6, some 7, none, none])
    ((.seq (.reg [⟨[], [], .cs .v (.n 0)⟩] [some 0, some 1, none, some 3, some 4, some 10, some 6, some 7, none, none])
    (.block 2 (.loop ((.seq ((.seq (.reg [⟨[], [], .nop⟩, ⟨[], [], .nop⟩, ⟨[], [], .bi .leq (.e 5) (.e 4)⟩] [some 0, some 1, none, some 3, some 4, some 5, some 6, some 7, none, some 10])
      (.cond 9 (.skip) (.exit 2))))
      ((.seq (.block 3 (.reg [⟨[], [], .nop⟩, ⟨[], [], .nop⟩, ⟨[], [], .nop⟩, ⟨[], [], .nop⟩, ⟨[], [], .ix (.e 3) [] (.e 4)⟩, ⟨[], [], .nop⟩, ⟨[], [], .nop⟩, ⟨[], [], .nop⟩, ⟨[], [], .iy (.e 0) (.e 5)⟩, ⟨[], [], .nop⟩, ⟨[], [], .nop⟩, ⟨[], [], .nop⟩, ⟨[], [], .nop⟩, ⟨[], [], .bi .sub (.e 4) (.e 5)⟩, ⟨[], [], .iy (.e 1) (.e 12)⟩, ⟨[], [], .nop⟩, ⟨[], [], .bi .mul (.e 11) (.e 13)⟩, ⟨[], [], .bi .add (.e 10) (.e 14)⟩, ⟨[], [], .ix (.e 3) [] (.e 4)⟩, ⟨[], [], .up 3 [.e 4] (.e 15)⟩] [some 0, some 1, none, some 17, some 4, some 5, some 6, some 7, none, none]))
      (.reg [⟨[], [], .nop⟩, ⟨[], [], .bi .add (.e 5) (.c (.n 1))⟩, ⟨[], [], .nop⟩] [some 0, some 1, none, some 3, some 4, some 10, some 6, some 7, none, none]))))))))))))
   (.reg [⟨[], [], .bi .add (.e 7) (.c (.n 1))⟩, ⟨[], [], .nop⟩] [some 0, some 1, none, some 3, none, none, some 6, some 10, none, none])))))))))))
 ((.seq (.reg [⟨[], [], .nop⟩, ⟨[], [], .nop⟩] [none, none, some 3, none, none, none, none, none, none, none])
 (.ret))))))))⟩

end Go.Cat

namespace Go.Cat
/-- loop.example/g03401/laws.FnSeries -/
def ir_laws_FnSeries : IF := ⟨[], 1, 72, [1],
 (.seq (.reg [⟨[], [], .cs .v (.b false)⟩] [some 0, none, none, none, none, none, none, none, none, none, none, none, none, none, none, none, none, none, none, none, none, none, none, none, none, none, none, none, none, none, none, none, none, none, none, none, none, none, none, none, none, none, none, none, none, none, none, none, none, none, none, none, none, none, none, none, none, none, none, none, none, none, none, none, none, none, none, none, none, none, none, none])
 ((.seq ((.seq (.reg [⟨[], [], .nop⟩, ⟨[], [], .ca 220 [(.e 0)] 1⟩] [some 0, none, none, none, none, none, none, none, none, none, none, none, none, none, none, none, none, none, none, none, none, none, none, none, none, none, none, none, none, none, none, none, none, none, none, none, none, none, none, none, none, none, none, none, none, none, none, none, none, none, none, none, none, some 72, none, none, none, none, none, none, none, none, none, none, none, none, none, none, none, none, none, none])
 (.cond 53 ((.seq (.reg [⟨[], [], .cs .v (.b true)⟩] [none, some 72, none, none, none, none, none, none, none, none, none, none, none, none, none, none, none, none, none, none, none, none, none, none, none, none, none, none, none, none, none, none, none, none, none, none, none, none, none, none, none, none, none, none, none, none, none, none, none, none, none, none, none, none, none, none, none, none, none, none, none, none, none, none, none, none, none, none, none, none, none, none])
  (.ret))) (.skip))))
 ((.seq (.reg [⟨[], [], .nop⟩, ⟨[], [], .ca 245 [(.e 0)] 1⟩, ⟨[], [], .nop⟩] [some 0, none, some 72, none, none, none, none, none, none, none, none, none, none, none, none, none, none, none, none, none, none, none, none, none, none, none, none, none, none, none, none, none, none, none, none, none, none, none, none, none, none, none, none, none, none, none, none, none, none, none, none, none, none, none, none, none, none, none, none, none, none, none, none, none, none, none, none, none, none, none, none, none])
 ((.seq (.reg [⟨[], [], .nop⟩, ⟨[], [], .ca 60 [(.e 2)] 2⟩, ⟨[], [], .nop⟩, ⟨[], [], .nop⟩, ⟨[], [], .nop⟩, ⟨[], [], .nop⟩, ⟨[], [], .nop⟩] [some 0, none, some 2, some 72, some 73, none, none, none, none, none, none, none, none, none, none, none, none, none, none, none, none, none, none, none, none, none, none, none, none, none, none, none, none, none, none, none, none, none, none, none, none, none, none, none, none, none, none, none, none, none, none, none, none, none, none, none, none, none, none, none, none, none, none, none, none, none, none, none, none, none, none, none])
 ((.seq (.reg [⟨[], [], .nop⟩, ⟨[], [], .ca 59 [(.e 2)] 2⟩, ⟨[], [], .nop⟩, ⟨[], [], .nop⟩, ⟨[], [], .nop⟩, ⟨[], [], .nop⟩, ⟨[], [], .nop⟩] [some 0, none, none, some 3, some 4, some 72, some 73, none, none, none, none, none, none, none, none, none, none, none, none, none, none, none, none, none, none, none, none, none, none, none, none, none, none, none, none, none, none, none, none, none, none, none, none, none, none, none, none, none, none, none, none, none, none, none, none, none, none, none, none, none, none, none, none, none, none, none, none, none, none, none, none, none])
 ((.seq ((.seq (.reg [⟨[], [], .nop⟩, ⟨[], [], .nop⟩, ⟨[], [], .bb .neq (.e 4) (.e 6)⟩, ⟨[], [], .nop⟩, ⟨[], [(72, false)], .cy (.e 3)⟩, ⟨[], [(72, false)], .cy (.e 5)⟩, ⟨[], [(72, false)], .ca 239 [(.e 73), (.e 74)] 1⟩, ⟨[], [(72, false)], .un .not (.e 75)⟩, ⟨[], [], .pk (.e 72) (.c (.b true)) (.e 76)⟩, ⟨[], [], .nop⟩, ⟨[], [(77, false)], .cy (.e 4)⟩, ⟨[], [(77, false)], .cy (.e 78)⟩, ⟨[], [(77, false), (79, true)], .cy (.e 5)⟩, ⟨[], [(77, false), (79, true)], .ca 48 [(.e 80)] 1⟩, ⟨[], [(77, false), (79, true)], .un .not (.e 81)⟩, ⟨[], [(77, false)], .pk (.e 79) (.e 82) (.c (.b false))⟩, ⟨[], [], .pk (.e 77) (.c (.b true)) (.e 83)⟩] [some 0, none, none, none, some 4, some 5, none, none, none, none, none, none, none, none, none, none, none, none, none, none, none, none, none, none, none, none, none, none, none, none, none, none, none, none, none, none, none, none, none, none, none, none, none, none, none, none, none, none, none, none, none, none, none, none, some 84, none, none, none, none, none, none, none, none, none, none, none, none, none, none, none, none, none])
 (.cond 54 ((.seq (.reg [⟨[], [], .cs .v (.b false)⟩] [none, some 72, none, none, none, none, none, none, none, none, none, none, none, none, none, none, none, none, none, none, none, none, none, none, none, none, none, none, none, none, none, none, none, none, none, none, none, none, none, none, none, none, none, none, none, none, none, none, none, none, none, none, none, none, none, none, none, none, none, none, none, none, none, none, none, none, none, none, none, none, none, none])
  (.ret))) (.skip))))
 ((.seq ((.seq (.reg [⟨[], [], .nop⟩] [some 0, none, none, none, none, some 5, none, none, none, none, none, none, none, none, none, none, none, none, none, none, none, none, none, none, none, none, none, none, none, none, none, none, none, none, none, none, none, none, none, none, none, none, none, none, none, none, none, none, none, none, none, none, none, none, none, some 4, none, none, none, none, none, none, none, none, none, none, none, none, none, none, none, none])
 (.cond 55 ((.seq (.reg [⟨[], [], .cs .v (.n 0)⟩] [some 0, none, none, none, none, some 5, none, some 72, none, none, none, none, none, none, none, none, none, none, none, none, none, none, none, none, none, none, none, none, none, none, none, none, none, none, none, none, none, none, none, none, none, none, none, none, none, none, none, none, none, none, none, none, none, none, none, none, none, none, none, none, none, none, none, none, none, none, none, none, none, none, none, none])
  (.block 0 (.loop ((.seq ((.seq (.reg [⟨[], [], .nop⟩, ⟨[], [], .bi .leq (.e 7) (.c (.n 4))⟩] [some 0, none, none, none, none, some 5, none, some 7, none, none, none, none, none, none, none, none, none, none, none, none, none, none, none, none, none, none, none, none, none, none, none, none, none, none, none, none, none, none, none, none, none, none, none, none, none, none, none, none, none, none, none, none, none, none, none, none, some 72, none, none, none, none, none, none, none, none, none, none, none, none, none, none, none])
    (.cond 56 (.skip) (.exit 0))))
    ((.seq (.block 1 ((.seq (.reg [⟨[], [], .cs .v (.n 0)⟩] [some 0, none, none, none, none, some 5, none, some 7, some 72, none, none, none, none, none, none, none, none, none, none, none, none, none, none, none, none, none, none, none, none, none, none, none, none, none, none, none, none, none, none, none, none, none, none, none, none, none, none, none, none, none, none, none, none, none, none, none, none, none, none, none, none, none, none, none, none, none, none, none, none, none, none, none])
     (.block 2 (.loop ((.seq ((.seq (.reg [⟨[], [], .nop⟩, ⟨[], [], .bi .leq (.e 8) (.c (.n 1))⟩] [some 0, none, none, none, none, some 5, none, some 7, some 8, none, none, none, none, none, none, none, none, none, none, none, none, none, none, none, none, none, none, none, none, none, none, none, none, none, none, none, none, none, none, none, none, none, none, none, none, none, none, none, none, none, none, none, none, none, none, none, none, some 72, none, none, none, none, none, none, none, none, none, none, none, none, none, none])
       (.cond 57 (.skip) (.exit 2))))
       ((.seq (.block 3 ((.seq (.reg [⟨[], [], .nop⟩, ⟨[], [], .nop⟩, ⟨[], [], .nop⟩, ⟨[], [], .ca 98 [(.e 5), (.e 7), (.e 8)] 2⟩, ⟨[], [], .nop⟩, ⟨[], [], .nop⟩, ⟨[], [], .nop⟩, ⟨[], [], .nop⟩, ⟨[], [], .nop⟩] [some 0, none, none, none, none, some 5, none, some 7, some 8, some 72, some 73, none, none, none, none, none, none, none, none, none, none, none, none, none, none, none, none, none, none, none, none, none, none, none, none, none, none, none, none, none, none, none, none, none, none, none, none, none, none, none, none, none, none, none, none, none, none, none, none, none, none, none, none, none, none, none, none, none, none, none, none, none])
        ((.seq (.reg [⟨[], [], .nop⟩, ⟨[], [], .nop⟩, ⟨[], [(10, true)], .cy (.e 9)⟩, ⟨[], [(10, true)], .bi .neq (.e 72) (.c (.n 1))⟩, ⟨[], [], .pk (.e 10) (.e 73) (.c (.b false))⟩] [some 0, none, none, none, none, some 5, none, some 7, some 8, none, none, none, none, none, none, none, none, none, none, none, none, none, none, none, none, none, none, none, none, none, none, none, none, none, none, none, none, none, none, none, none, none, none, none, none, none, none, none, none, none, none, none, none, none, none, none, none, none, some 74, none, none, none, none, none, none, none, none, none, none, none, none, none])
        (.cond 58 ((.seq (.reg [⟨[], [], .cs .v (.b false)⟩] [none, some 72, none, none, none, none, none, none, none, none, none, none, none, none, none, none, none, none, none, none, none, none, none, none, none, none, none, none, none, none, none, none, none, none, none, none, none, none, none, none, none, none, none, none, none, none, none, none, none, none, none, none, none, none, none, none, none, none, none, none, none, none, none, none, none, none, none, none, none, none, none, none])
         (.ret))) (.skip)))))))
       (.reg [⟨[], [], .nop⟩, ⟨[], [], .bi .add (.e 8) (.c (.n 1))⟩, ⟨[], [], .nop⟩] [some 0, none, none, none, none, some 5, none, some 7, some 72, none, none, none, none, none, none, none, none, none, none, none, none, none, none, none, none, none, none, none, none, none, none, none, none, none, none, none, none, none, none, none, none, none, none, none, none, none, none, none, none, none, none, none, none, none, none, none, none, none, none, none, none, none, none, none, none, none, none, none, none, none, none, none]))))))))))
    (.reg [⟨[], [], .nop⟩, ⟨[], [], .bi .add (.e 7) (.c (.n 1))⟩, ⟨[], [], .nop⟩] [some 0, none, none, none, none, some 5, none, some 72, none, none, none, none, none, none, none, none, none, none, none, none, none, none, none, none, none, none, none, none, none, none, none, none, none, none, none, none, none, none, none, none, none, none, none, none, none, none, none, none, none, none, none, none, none, none, none, none, none, none, none, none, none, none, none, none, none, none, none, none, none, none, none, none]))))))))) (.skip))))
 ((.seq (.reg [⟨[], [], .nop⟩, ⟨[], [], .ca 246 [(.e 0)] 1⟩, ⟨[], [], .nop⟩] [some 0, none, none, none, none, none, none, none, none, none, none, some 72, none, none, none, none, none, none, none, none, none, none, none, none, none, none, none, none, none, none, none, none, none, none, none, none, none, none, none, none, none, none, none, none, none, none, none, none, none, none, none, none, none, none, none, none, none, none, none, none, none, none, none, none, none, none, none, none, none, none, none, none])
 ((.seq (.reg [⟨[], [], .nop⟩, ⟨[], [], .ca 56 [(.e 11)] 2⟩, ⟨[], [], .nop⟩, ⟨[], [], .nop⟩, ⟨[], [], .nop⟩, ⟨[], [], .nop⟩, ⟨[], [], .nop⟩] [some 0, none, none, none, none, none, none, none, none, none, none, some 11, some 72, some 73, none, none, none, none, none, none, none, none, none, none, none, none, none, none, none, none, none, none, none, none, none, none, none, none, none, none, none, none, none, none, none, none, none, none, none, none, none, none, none, none, none, none, none, none, none, none, none, none, none, none, none, none, none, none, none, none, none, none])
 ((.seq (.reg [⟨[], [], .nop⟩, ⟨[], [], .ca 55 [(.e 11)] 2⟩, ⟨[], [], .nop⟩, ⟨[], [], .nop⟩, ⟨[], [], .nop⟩, ⟨[], [], .nop⟩, ⟨[], [], .nop⟩] [some 0, none, none, none, none, none, none, none, none, none, none, some 11, some 12, some 13, some 72, some 73, none, none, none, none, none, none, none, none, none, none, none, none, none, none, none, none, none, none, none, none, none, none, none, none, none, none, none, none, none, none, none, none, none, none, none, none, none, none, none, none, none, none, none, none, none, none, none, none, none, none, none, none, none, none, none, none])
 ((.seq ((.seq (.reg [⟨[], [], .nop⟩, ⟨[], [], .nop⟩, ⟨[], [], .bb .neq (.e 13) (.e 15)⟩, ⟨[], [], .nop⟩, ⟨[], [(72, false)], .cy (.e 12)⟩, ⟨[], [(72, false)], .cy (.e 14)⟩, ⟨[], [(72, false)], .ca 239 [(.e 73), (.e 74)] 1⟩, ⟨[], [(72, false)], .un .not (.e 75)⟩, ⟨[], [], .pk (.e 72) (.c (.b true)) (.e 76)⟩] [some 0, none, none, none, none, none, none, none, none, none, none, some 11, none, some 13, some 14, none, none, none, none, none, none, none, none, none, none, none, none, none, none, none, none, none, none, none, none, none, none, none, none, none, none, none, none, none, none, none, none, none, none, none, none, none, none, none, none, none, none, none, none, some 77, none, none, none, none, none, none, none, none, none, none, none, none])
 (.cond 59 ((.seq (.reg [⟨[], [], .cs .v (.b false)⟩] [none, some 72, none, none, none, none, none, none, none, none, none, none, none, none, none, none, none, none, none, none, none, none, none, none, none, none, none, none, none, none, none, none, none, none, none, none, none, none, none, none, none, none, none, none, none, none, none, none, none, none, none, none, none, none, none, none, none, none, none, none, none, none, none, none, none, none, none, none, none, none, none, none])
  (.ret))) (.skip))))
 ((.seq ((.seq (.reg [⟨[], [], .nop⟩] [some 0, none, none, none, none, none, none, none, none, none, none, some 11, none, none, some 14, none, none, none, none, none, none, none, none, none, none, none, none, none, none, none, none, none, none, none, none, none, none, none, none, none, none, none, none, none, none, none, none, none, none, none, none, none, none, none, none, none, none, none, none, none, some 13, none, none, none, none, none, none, none, none, none, none, none])
 (.cond 60 ((.seq (.reg [⟨[], [], .nop⟩, ⟨[], [], .nop⟩, ⟨[], [], .ca 43 [(.e 11), (.e 14)] 2⟩, ⟨[], [], .nop⟩, ⟨[], [], .nop⟩, ⟨[], [], .nop⟩, ⟨[], [], .nop⟩, ⟨[], [], .nop⟩] [some 0, none, none, none, none, none, none, none, none, none, none, none, none, none, none, none, some 72, some 73, none, none, none, none, none, none, none, none, none, none, none, none, none, none, none, none, none, none, none, none, none, none, none, none, none, none, none, none, none, none, none, none, none, none, none, none, none, none, none, none, none, none, none, none, none, none, none, none, none, none, none, none, none, none])
  ((.seq (.reg [⟨[], [], .cs .v (.n 0)⟩] [some 0, none, none, none, none, none, none, none, none, none, none, none, none, none, none, none, some 16, some 17, some 72, none, none, none, none, none, none, none, none, none, none, none, none, none, none, none, none, none, none, none, none, none, none, none, none, none, none, none, none, none, none, none, none, none, none, none, none, none, none, none, none, none, none, none, none, none, none, none, none, none, none, none, none, none])
  (.block 4 (.loop ((.seq ((.seq (.reg [⟨[], [], .nop⟩, ⟨[], [], .nop⟩, ⟨[], [], .ln (.e 16) []⟩, ⟨[], [], .bi .lss (.e 18) (.e 72)⟩, ⟨[], [], .nop⟩, ⟨[], [(73, true)], .cy (.e 17)⟩, ⟨[], [], .pk (.e 73) (.e 74) (.c (.b false))⟩] [some 0, none, none, none, none, none, none, none, none, none, none, none, none, none, none, none, some 16, some 17, some 18, none, none, none, none, none, none, none, none, none, none, none, none, none, none, none, none, none, none, none, none, none, none, none, none, none, none, none, none, none, none, none, none, none, none, none, none, none, none, none, none, none, none, some 75, none, none, none, none, none, none, none, none, none, none])
    (.cond 61 (.skip) (.exit 4))))
    ((.seq (.block 5 ((.seq (.reg [⟨[], [], .nop⟩, ⟨[], [], .bi .eql (.e 18) (.c (.n 0))⟩, ⟨[], [], .nop⟩, ⟨[], [(72, true)], .cy (.e 16)⟩, ⟨[], [(72, true)], .ix (.e 73) [] (.c (.n 0))⟩, ⟨[], [(72, true)], .nop⟩, ⟨[], [(72, true)], .bi .neq (.e 74) (.c (.n 1))⟩, ⟨[], [], .pk (.e 72) (.e 75) (.c (.b false))⟩, ⟨[], [], .nop⟩, ⟨[], [(76, false)], .cy (.e 18)⟩, ⟨[], [(76, false)], .bi .gtr (.e 77) (.c (.n 0))⟩, ⟨[], [(76, false)], .cy (.e 78)⟩, ⟨[], [(76, false), (79, true)], .cy (.e 16)⟩, ⟨[], [(76, false), (79, true)], .cy (.e 18)⟩, ⟨[], [(76, false), (79, true)], .ix (.e 80) [] (.e 81)⟩, ⟨[], [(76, false), (79, true)], .nop⟩, ⟨[], [(76, false), (79, true)], .bi .neq (.e 82) (.c (.n 0))⟩, ⟨[], [(76, false)], .pk (.e 79) (.e 83) (.c (.b false))⟩, ⟨[], [], .pk (.e 76) (.c (.b true)) (.e 84)⟩] [some 0, none, none, none, none, none, none, none, none, none, none, none, none, none, none, none, some 16, some 17, some 18, none, none, none, none, none, none, none, none, none, none, none, none, none, none, none, none, none, none, none, none, none, none, none, none, none, none, none, none, none, none, none, none, none, none, none, none, none, none, none, none, none, none, none, some 85, none, none, none, none, none, none, none, none, none])
     (.cond 62 ((.seq (.reg [⟨[], [], .cs .v (.b false)⟩] [none, some 72, none, none, none, none, none, none, none, none, none, none, none, none, none, none, none, none, none, none, none, none, none, none, none, none, none, none, none, none, none, none, none, none, none, none, none, none, none, none, none, none, none, none, none, none, none, none, none, none, none, none, none, none, none, none, none, none, none, none, none, none, none, none, none, none, none, none, none, none, none, none])
      (.ret))) (.skip)))))
    (.reg [⟨[], [], .nop⟩, ⟨[], [], .bi .add (.e 18) (.c (.n 1))⟩, ⟨[], [], .nop⟩] [some 0, none, none, none, none, none, none, none, none, none, none, none, none, none, none, none, some 16, some 17, some 72, none, none, none, none, none, none, none, none, none, none, none, none, none, none, none, none, none, none, none, none, none, none, none, none, none, none, none, none, none, none, none, none, none, none, none, none, none, none, none, none, none, none, none, none, none, none, none, none, none, none, none, none, none]))))))))))) (.skip))))
 ((.seq (.reg [⟨[], [], .nop⟩, ⟨[], [], .ca 247 [(.e 0)] 1⟩, ⟨[], [], .nop⟩] [some 0, none, none, none, none, none, none, none, none, none, none, none, none, none, none, none, none, none, none, some 72, none, none, none, none, none, none, none, none, none, none, none, none, none, none, none, none, none, none, none, none, none, none, none, none, none, none, none, none, none, none, none, none, none, none, none, none, none, none, none, none, none, none, none, none, none, none, none, none, none, none, none, none])
 ((.seq (.reg [⟨[], [], .nop⟩, ⟨[], [], .ca 104 [(.e 19)] 2⟩, ⟨[], [], .nop⟩, ⟨[], [], .nop⟩, ⟨[], [], .nop⟩, ⟨[], [], .nop⟩, ⟨[], [], .nop⟩] [some 0, none, none, none, none, none, none, none, none, none, none, none, none, none, none, none, none, none, none, some 19, some 72, some 73, none, none, none, none, none, none, none, none, none, none, none, none, none, none, none, none, none, none, none, none, none, none, none, none, none, none, none, none, none, none, none, none, none, none, none, none, none, none, none, none, none, none, none, none, none, none, none, none, none, none])
 ((.seq (.reg [⟨[], [], .nop⟩, ⟨[], [], .ca 103 [(.e 19)] 2⟩, ⟨[], [], .nop⟩, ⟨[], [], .nop⟩, ⟨[], [], .nop⟩, ⟨[], [], .nop⟩, ⟨[], [], .nop⟩] [some 0, none, none, none, none, none, none, none, none, none, none, none, none, none, none, none, none, none, none, some 19, some 20, some 21, some 72, some 73, none, none, none, none, none, none, none, none, none, none, none, none, none, none, none, none, none, none, none, none, none, none, none, none, none, none, none, none, none, none, none, none, none, none, none, none, none, none, none, none, none, none, none, none, none, none, none, none])
 ((.seq ((.seq (.reg [⟨[], [], .nop⟩, ⟨[], [], .nop⟩, ⟨[], [], .bb .neq (.e 21) (.e 23)⟩, ⟨[], [], .nop⟩, ⟨[], [(72, false)], .cy (.e 20)⟩, ⟨[], [(72, false)], .cy (.e 22)⟩, ⟨[], [(72, false)], .ca 239 [(.e 73), (.e 74)] 1⟩, ⟨[], [(72, false)], .un .not (.e 75)⟩, ⟨[], [], .pk (.e 72) (.c (.b true)) (.e 76)⟩] [some 0, none, none, none, none, none, none, none, none, none, none, none, none, none, none, none, none, none, none, some 19, none, some 21, some 22, none, none, none, none, none, none, none, none, none, none, none, none, none, none, none, none, none, none, none, none, none, none, none, none, none, none, none, none, none, none, none, none, none, none, none, none, none, none, none, none, some 77, none, none, none, none, none, none, none, none])
 (.cond 63 ((.seq (.reg [⟨[], [], .cs .v (.b false)⟩] [none, some 72, none, none, none, none, none, none, none, none, none, none, none, none, none, none, none, none, none, none, none, none, none, none, none, none, none, none, none, none, none, none, none, none, none, none, none, none, none, none, none, none, none, none, none, none, none, none, none, none, none, none, none, none, none, none, none, none, none, none, none, none, none, none, none, none, none, none, none, none, none, none])
  (.ret))) (.skip))))
 ((.seq ((.seq (.reg [⟨[], [], .nop⟩] [some 0, none, none, none, none, none, none, none, none, none, none, none, none, none, none, none, none, none, none, some 19, none, none, some 22, none, none, none, none, none, none, none, none, none, none, none, none, none, none, none, none, none, none, none, none, none, none, none, none, none, none, none, none, none, none, none, none, none, none, none, none, none, none, none, none, none, some 21, none, none, none, none, none, none, none])
 (.cond 64 ((.seq (.reg [⟨[], [], .nop⟩, ⟨[], [], .ln (.e 19) []⟩, ⟨[], [], .mk (.n 0) (.e 72) (.e 72)⟩, ⟨[], [], .nop⟩] [some 0, none, none, none, none, none, none, none, none, none, none, none, none, none, none, none, none, none, none, some 19, none, none, some 22, none, some 73, none, none, none, none, none, none, none, none, none, none, none, none, none, none, none, none, none, none, none, none, none, none, none, none, none, none, none, none, none, none, none, none, none, none, none, none, none, none, none, none, none, none, none, none, none, none, none])
  ((.seq (.reg [⟨[], [], .nop⟩, ⟨[], [], .ln (.e 19) []⟩, ⟨[], [], .mk (.n 0) (.e 72) (.e 72)⟩, ⟨[], [], .nop⟩] [some 0, none, none, none, none, none, none, none, none, none, none, none, none, none, none, none, none, none, none, some 19, none, none, some 22, none, some 24, some 73, none, none, none, none, none, none, none, none, none, none, none, none, none, none, none, none, none, none, none, none, none, none, none, none, none, none, none, none, none, none, none, none, none, none, none, none, none, none, none, none, none, none, none, none, none, none])
  ((.seq (.reg [⟨[], [], .nop⟩, ⟨[], [], .ix (.e 25) [] (.c (.n 0))⟩, ⟨[], [], .up 25 [.k 0] (.c (.n 1))⟩] [some 0, none, none, none, none, none, none, none, none, none, none, none, none, none, none, none, none, none, none, some 19, none, none, some 22, none, some 24, some 73, none, none, none, none, none, none, none, none, none, none, none, none, none, none, none, none, none, none, none, none, none, none, none, none, none, none, none, none, none, none, none, none, none, none, none, none, none, none, none, none, none, none, none, none, none, none])
  ((.seq (.reg [⟨[], [], .cs .v (.b true)⟩] [some 0, none, none, none, none, none, none, none, none, none, none, none, none, none, none, none, none, none, none, some 19, none, none, some 22, none, some 24, some 25, some 72, none, none, none, none, none, none, none, none, none, none, none, none, none, none, none, none, none, none, none, none, none, none, none, none, none, none, none, none, none, none, none, none, none, none, none, none, none, none, none, none, none, none, none, none, none])
  ((.seq ((.seq (.reg [⟨[], [], .cs .v (.n 0)⟩] [some 0, none, none, none, none, none, none, none, none, none, none, none, none, none, none, none, none, none, none, some 19, none, none, some 22, none, some 24, some 25, some 26, some 72, none, none, none, none, none, none, none, none, none, none, none, none, none, none, none, none, none, none, none, none, none, none, none, none, none, none, none, none, none, none, none, none, none, none, none, none, none, none, none, none, none, none, none, none])
  (.block 6 (.loop ((.seq ((.seq (.reg [⟨[], [], .nop⟩, ⟨[], [], .nop⟩, ⟨[], [], .ln (.e 19) []⟩, ⟨[], [], .bi .lss (.e 27) (.e 72)⟩, ⟨[], [], .nop⟩, ⟨[], [(73, true)], .cy (.e 26)⟩, ⟨[], [], .pk (.e 73) (.e 74) (.c (.b false))⟩] [some 0, none, none, none, none, none, none, none, none, none, none, none, none, none, none, none, none, none, none, some 19, none, none, some 22, none, some 24, some 25, some 26, some 27, none, none, none, none, none, none, none, none, none, none, none, none, none, none, none, none, none, none, none, none, none, none, none, none, none, none, none, none, none, none, none, none, none, none, none, none, none, some 75, none, none, none, none, none, none])
    (.cond 65 (.skip) (.exit 6))))
    ((.seq (.block 7 ((.seq ((.seq (.reg [⟨[], [], .cs .v (.n 0)⟩] [some 0, none, none, none, none, none, none, none, none, none, none, none, none, none, none, none, none, none, none, some 19, none, none, some 22, none, some 24, some 25, none, some 27, some 72, none, none, none, none, none, none, none, none, none, none, none, none, none, none, none, none, none, none, none, none, none, none, none, none, none, none, none, none, none, none, none, none, none, none, none, none, none, none, none, none, none, none, none])
     (.block 8 (.loop ((.seq ((.seq (.reg [⟨[], [], .nop⟩, ⟨[], [], .nop⟩, ⟨[], [], .ln (.e 19) []⟩, ⟨[], [], .bi .lss (.e 28) (.e 72)⟩] [some 0, none, none, none, none, none, none, none, none, none, none, none, none, none, none, none, none, none, none, some 19, none, none, some 22, none, some 24, some 25, none, some 27, some 28, none, none, none, none, none, none, none, none, none, none, none, none, none, none, none, none, none, none, none, none, none, none, none, none, none, none, none, none, none, none, none, none, none, none, none, none, none, some 73, none, none, none, none, none])
       (.cond 66 (.skip) (.exit 8))))
       ((.seq (.block 9 (.reg [⟨[], [], .nop⟩, ⟨[], [], .nop⟩, ⟨[], [], .nop⟩, ⟨[], [], .nop⟩, ⟨[], [], .ix (.e 24) [] (.e 28)⟩, ⟨[], [], .nop⟩, ⟨[], [], .nop⟩, ⟨[], [], .nop⟩, ⟨[], [], .ix (.e 19) [] (.e 27)⟩, ⟨[], [], .nop⟩, ⟨[], [], .nop⟩, ⟨[], [], .nop⟩, ⟨[], [], .ix (.e 25) [] (.e 28)⟩, ⟨[], [], .nop⟩, ⟨[], [], .bi .mul (.e 73) (.e 74)⟩, ⟨[], [], .bi .add (.e 72) (.e 75)⟩, ⟨[], [], .ix (.e 24) [] (.e 28)⟩, ⟨[], [], .up 24 [.e 28] (.e 76)⟩] [some 0, none, none, none, none, none, none, none, none, none, none, none, none, none, none, none, none, none, none, some 19, none, none, some 22, none, some 78, some 25, none, some 27, some 28, none, none, none, none, none, none, none, none, none, none, none, none, none, none, none, none, none, none, none, none, none, none, none, none, none, none, none, none, none, none, none, none, none, none, none, none, none, none, none, none, none, none, none]))
       (.reg [⟨[], [], .nop⟩, ⟨[], [], .bi .add (.e 28) (.c (.n 1))⟩, ⟨[], [], .nop⟩] [some 0, none, none, none, none, none, none, none, none, none, none, none, none, none, none, none, none, none, none, some 19, none, none, some 22, none, some 24, some 25, none, some 27, some 72, none, none, none, none, none, none, none, none, none, none, none, none, none, none, none, none, none, none, none, none, none, none, none, none, none, none, none, none, none, none, none, none, none, none, none, none, none, none, none, none, none, none, none])))))))))
     (.reg [⟨[], [], .nop⟩, ⟨[], [], .nop⟩, ⟨[], [], .ca 41 [(.e 25), (.e 22)] 2⟩, ⟨[], [], .nop⟩, ⟨[], [], .nop⟩, ⟨[], [], .nop⟩, ⟨[], [], .nop⟩, ⟨[], [], .nop⟩] [some 0, none, none, none, none, none, none, none, none, none, none, none, none, none, none, none, none, none, none, some 19, none, none, some 22, none, some 24, some 72, some 73, some 27, none, none, none, none, none, none, none, none, none, none, none, none, none, none, none, none, none, none, none, none, none, none, none, none, none, none, none, none, none, none, none, none, none, none, none, none, none, none, none, none, none, none, none, none]))))
    (.reg [⟨[], [], .nop⟩, ⟨[], [], .bi .add (.e 27) (.c (.n 1))⟩, ⟨[], [], .nop⟩] [some 0, none, none, none, none, none, none, none, none, none, none, none, none, none, none, none, none, none, none, some 19, none, none, some 22, none, some 24, some 25, some 26, some 72, none, none, none, none, none, none, none, none, none, none, none, none, none, none, none, none, none, none, none, none, none, none, none, none, none, none, none, none, none, none, none, none, none, none, none, none, none, none, none, none, none, none, none, none])))))))))
  ((.seq (.reg [⟨[], [], .cs .v (.n 0)⟩] [some 0, none, none, none, none, none, none, none, none, none, none, none, none, none, none, none, none, none, none, some 19, none, none, none, none, some 24, none, some 26, none, none, some 72, none, none, none, none, none, none, none, none, none, none, none, none, none, none, none, none, none, none, none, none, none, none, none, none, none, none, none, none, none, none, none, none, none, none, none, none, none, none, none, none, none, none])
  (.block 10 (.loop ((.seq ((.seq (.reg [⟨[], [], .nop⟩, ⟨[], [], .nop⟩, ⟨[], [], .ln (.e 19) []⟩, ⟨[], [], .bi .lss (.e 29) (.e 72)⟩, ⟨[], [], .nop⟩, ⟨[], [(73, true)], .cy (.e 26)⟩, ⟨[], [], .pk (.e 73) (.e 74) (.c (.b false))⟩] [some 0, none, none, none, none, none, none, none, none, none, none, none, none, none, none, none, none, none, none, some 19, none, none, none, none, some 24, none, some 26, none, none, some 29, none, none, none, none, none, none, none, none, none, none, none, none, none, none, none, none, none, none, none, none, none, none, none, none, none, none, none, none, none, none, none, none, none, none, none, none, none, some 75, none, none, none, none])
    (.cond 67 (.skip) (.exit 10))))
    ((.seq (.block 11 ((.seq (.reg [⟨[], [], .nop⟩, ⟨[], [], .bi .eql (.e 29) (.c (.n 1))⟩, ⟨[], [], .nop⟩, ⟨[], [(72, true)], .nop⟩, ⟨[], [(72, true)], .cy (.e 29)⟩, ⟨[], [(72, true)], .ix (.e 24) [] (.e 73)⟩, ⟨[], [(72, true)], .nop⟩, ⟨[], [(72, true)], .bi .neq (.e 74) (.c (.n 1))⟩, ⟨[], [], .pk (.e 72) (.e 75) (.c (.b false))⟩, ⟨[], [], .nop⟩, ⟨[], [(76, false)], .cy (.e 29)⟩, ⟨[], [(76, false)], .bi .neq (.e 77) (.c (.n 1))⟩, ⟨[], [(76, false)], .cy (.e 78)⟩, ⟨[], [(76, false), (79, true)], .nop⟩, ⟨[], [(76, false), (79, true)], .cy (.e 29)⟩, ⟨[], [(76, false), (79, true)], .ix (.e 24) [] (.e 80)⟩, ⟨[], [(76, false), (79, true)], .nop⟩, ⟨[], [(76, false), (79, true)], .bi .neq (.e 81) (.c (.n 0))⟩, ⟨[], [(76, false)], .pk (.e 79) (.e 82) (.c (.b false))⟩, ⟨[], [], .pk (.e 76) (.c (.b true)) (.e 83)⟩] [some 0, none, none, none, none, none, none, none, none, none, none, none, none, none, none, none, none, none, none, some 19, none, none, none, none, some 24, none, some 26, none, none, some 29, none, none, none, none, none, none, none, none, none, none, none, none, none, none, none, none, none, none, none, none, none, none, none, none, none, none, none, none, none, none, none, none, none, none, none, none, none, none, some 84, none, none, none])
     (.cond 68 ((.seq (.reg [⟨[], [], .cs .v (.b false)⟩] [none, some 72, none, none, none, none, none, none, none, none, none, none, none, none, none, none, none, none, none, none, none, none, none, none, none, none, none, none, none, none, none, none, none, none, none, none, none, none, none, none, none, none, none, none, none, none, none, none, none, none, none, none, none, none, none, none, none, none, none, none, none, none, none, none, none, none, none, none, none, none, none, none])
      (.ret))) (.skip)))))
    (.reg [⟨[], [], .nop⟩, ⟨[], [], .bi .add (.e 29) (.c (.n 1))⟩, ⟨[], [], .nop⟩] [some 0, none, none, none, none, none, none, none, none, none, none, none, none, none, none, none, none, none, none, some 19, none, none, none, none, some 24, none, some 26, none, none, some 72, none, none, none, none, none, none, none, none, none, none, none, none, none, none, none, none, none, none, none, none, none, none, none, none, none, none, none, none, none, none, none, none, none, none, none, none, none, none, none, none, none, none]))))))))))))))))))) (.skip))))
 ((.seq (.reg [⟨[], [], .li (.o .v) [(.c (.n 0)), (.c (.n 1)), (.c (.n (-1))), (.c (.n 0)), (.c (.n 0)), (.c (.n 0)), (.c (.n 0))]⟩, ⟨[], [], .nop⟩] [some 0, none, none, none, none, none, none, none, none, none, none, none, none, none, none, none, none, none, none, none, none, none, none, none, none, none, none, none, none, none, some 72, none, none, none, none, none, none, none, none, none, none, none, none, none, none, none, none, none, none, none, none, none, none, none, none, none, none, none, none, none, none, none, none, none, none, none, none, none, none, none, none, none])
 ((.seq (.reg [⟨[], [], .nop⟩, ⟨[], [], .ca 104 [(.e 30)] 2⟩, ⟨[], [], .nop⟩, ⟨[], [], .nop⟩, ⟨[], [], .nop⟩, ⟨[], [], .nop⟩, ⟨[], [], .nop⟩] [some 0, none, none, none, none, none, none, none, none, none, none, none, none, none, none, none, none, none, none, none, none, none, none, none, none, none, none, none, none, none, none, some 72, some 73, none, none, none, none, none, none, none, none, none, none, none, none, none, none, none, none, none, none, none, none, none, none, none, none, none, none, none, none, none, none, none, none, none, none, none, none, none, none, none])
 ((.seq ((.seq (.reg [⟨[], [], .nop⟩, ⟨[], [], .un .not (.e 32)⟩] [some 0, none, none, none, none, none, none, none, none, none, none, none, none, none, none, none, none, none, none, none, none, none, none, none, none, none, none, none, none, none, none, some 31, none, none, none, none, none, none, none, none, none, none, none, none, none, none, none, none, none, none, none, none, none, none, none, none, none, none, none, none, none, none, none, none, none, none, none, none, none, some 72, none, none])
 (.cond 69 ((.seq (.reg [⟨[], [], .cs .v (.b false)⟩] [none, some 72, none, none, none, none, none, none, none, none, none, none, none, none, none, none, none, none, none, none, none, none, none, none, none, none, none, none, none, none, none, none, none, none, none, none, none, none, none, none, none, none, none, none, none, none, none, none, none, none, none, none, none, none, none, none, none, none, none, none, none, none, none, none, none, none, none, none, none, none, none, none])
  (.ret))) (.skip))))
 ((.seq ((.seq (.reg [⟨[], [], .cs .v (.n 1)⟩] [some 0, none, none, none, none, none, none, none, none, none, none, none, none, none, none, none, none, none, none, none, none, none, none, none, none, none, none, none, none, none, none, some 31, none, some 72, none, none, none, none, none, none, none, none, none, none, none, none, none, none, none, none, none, none, none, none, none, none, none, none, none, none, none, none, none, none, none, none, none, none, none, none, none, none])
 (.block 12 (.loop ((.seq ((.seq (.reg [⟨[], [], .nop⟩, ⟨[], [], .nop⟩, ⟨[], [], .ln (.e 31) []⟩, ⟨[], [], .bi .lss (.e 33) (.e 72)⟩] [some 0, none, none, none, none, none, none, none, none, none, none, none, none, none, none, none, none, none, none, none, none, none, none, none, none, none, none, none, none, none, none, some 31, none, some 33, none, none, none, none, none, none, none, none, none, none, none, none, none, none, none, none, none, none, none, none, none, none, none, none, none, none, none, none, none, none, none, none, none, none, none, none, some 73, none])
   (.cond 70 (.skip) (.exit 12))))
   ((.seq (.block 13 ((.seq (.reg [⟨[], [], .nop⟩, ⟨[], [], .nop⟩, ⟨[], [], .ix (.e 31) [] (.e 33)⟩, ⟨[], [], .nop⟩, ⟨[], [], .nop⟩, ⟨[], [], .bi .sub (.e 33) (.c (.n 1))⟩, ⟨[], [], .ca 79 [(.e 73)] 1⟩, ⟨[], [], .bi .neq (.e 72) (.e 74)⟩] [some 0, none, none, none, none, none, none, none, none, none, none, none, none, none, none, none, none, none, none, none, none, none, none, none, none, none, none, none, none, none, none, some 31, none, some 33, none, none, none, none, none, none, none, none, none, none, none, none, none, none, none, none, none, none, none, none, none, none, none, none, none, none, none, none, none, none, none, none, none, none, none, none, none, some 75])
    (.cond 71 ((.seq (.reg [⟨[], [], .cs .v (.b false)⟩] [none, some 72, none, none, none, none, none, none, none, none, none, none, none, none, none, none, none, none, none, none, none, none, none, none, none, none, none, none, none, none, none, none, none, none, none, none, none, none, none, none, none, none, none, none, none, none, none, none, none, none, none, none, none, none, none, none, none, none, none, none, none, none, none, none, none, none, none, none, none, none, none, none])
     (.ret))) (.skip)))))
   (.reg [⟨[], [], .nop⟩, ⟨[], [], .bi .add (.e 33) (.c (.n 1))⟩, ⟨[], [], .nop⟩] [some 0, none, none, none, none, none, none, none, none, none, none, none, none, none, none, none, none, none, none, none, none, none, none, none, none, none, none, none, none, none, none, some 31, none, some 72, none, none, none, none, none, none, none, none, none, none, none, none, none, none, none, none, none, none, none, none, none, none, none, none, none, none, none, none, none, none, none, none, none, none, none, none, none, none])))))))))
 ((.seq (.reg [⟨[], [], .nop⟩, ⟨[], [], .ca 248 [(.e 0)] 2⟩, ⟨[], [], .nop⟩, ⟨[], [], .nop⟩, ⟨[], [], .nop⟩, ⟨[], [], .nop⟩, ⟨[], [], .nop⟩] [some 0, none, none, none, none, none, none, none, none, none, none, none, none, none, none, none, none, none, none, none, none, none, none, none, none, none, none, none, none, none, none, none, none, none, some 72, some 73, none, none, none, none, none, none, none, none, none, none, none, none, none, none, none, none, none, none, none, none, none, none, none, none, none, none, none, none, none, none, none, none, none, none, none, none])
 ((.seq (.reg [⟨[], [], .nop⟩, ⟨[], [], .nop⟩, ⟨[], [], .ca 43 [(.e 34), (.e 35)] 2⟩, ⟨[], [], .nop⟩, ⟨[], [], .nop⟩, ⟨[], [], .nop⟩, ⟨[], [], .nop⟩, ⟨[], [], .nop⟩] [some 0, none, none, none, none, none, none, none, none, none, none, none, none, none, none, none, none, none, none, none, none, none, none, none, none, none, none, none, none, none, none, none, none, none, some 34, some 35, some 72, some 73, none, none, none, none, none, none, none, none, none, none, none, none, none, none, none, none, none, none, none, none, none, none, none, none, none, none, none, none, none, none, none, none, none, none])
 ((.seq (.reg [⟨[], [], .nop⟩, ⟨[], [], .nop⟩, ⟨[], [], .ca 41 [(.e 34), (.e 35)] 2⟩, ⟨[], [], .nop⟩, ⟨[], [], .nop⟩, ⟨[], [], .nop⟩, ⟨[], [], .nop⟩, ⟨[], [], .nop⟩] [some 0, none, none, none, none, none, none, none, none, none, none, none, none, none, none, none, none, none, none, none, none, none, none, none, none, none, none, none, none, none, none, none, none, none, none, none, some 36, some 37, some 72, some 73, none, none, none, none, none, none, none, none, none, none, none, none, none, none, none, none, none, none, none, none, none, none, none, none, none, none, none, none, none, none, none, none])
 ((.seq (.reg [⟨[], [], .nop⟩, ⟨[], [], .ca 249 [(.e 0)] 3⟩, ⟨[], [], .nop⟩, ⟨[], [], .nop⟩, ⟨[], [], .nop⟩, ⟨[], [], .nop⟩, ⟨[], [], .nop⟩, ⟨[], [], .nop⟩, ⟨[], [], .nop⟩] [some 0, none, none, none, none, none, none, none, none, none, none, none, none, none, none, none, none, none, none, none, none, none, none, none, none, none, none, none, none, none, none, none, none, none, none, none, some 36, some 37, some 38, some 39, some 72, some 73, some 74, none, none, none, none, none, none, none, none, none, none, none, none, none, none, none, none, none, none, none, none, none, none, none, none, none, none, none, none, none])
 ((.seq (.reg [⟨[], [], .nop⟩, ⟨[], [], .nop⟩, ⟨[], [], .nop⟩, ⟨[], [], .ca 98 [(.e 40), (.e 41), (.e 42)] 2⟩, ⟨[], [], .nop⟩, ⟨[], [], .nop⟩, ⟨[], [], .nop⟩, ⟨[], [], .nop⟩, ⟨[], [], .nop⟩] [some 0, none, none, none, none, none, none, none, none, none, none, none, none, none, none, none, none, none, none, none, none, none, none, none, none, none, none, none, none, none, none, none, none, none, none, none, some 36, some 37, some 38, some 39, some 40, some 41, some 42, some 72, some 73, none, none, none, none, none, none, none, none, none, none, none, none, none, none, none, none, none, none, none, none, none, none, none, none, none, none, none])
 ((.seq (.reg [⟨[], [], .nop⟩, ⟨[], [], .nop⟩, ⟨[], [], .nop⟩, ⟨[], [], .ca 97 [(.e 40), (.e 41), (.e 42)] 2⟩, ⟨[], [], .nop⟩, ⟨[], [], .nop⟩, ⟨[], [], .nop⟩, ⟨[], [], .nop⟩, ⟨[], [], .nop⟩] [some 0, none, none, none, none, none, none, none, none, none, none, none, none, none, none, none, none, none, none, none, none, none, none, none, none, none, none, none, none, none, none, none, none, none, none, none, some 36, some 37, some 38, some 39, none, none, none, some 43, some 44, some 72, some 73, none, none, none, none, none, none, none, none, none, none, none, none, none, none, none, none, none, none, none, none, none, none, none, none, none])
 ((.seq (.reg [⟨[], [], .nop⟩, ⟨[], [], .ca 250 [(.e 0)] 1⟩, ⟨[], [], .nop⟩] [some 0, none, none, none, none, none, none, none, none, none, none, none, none, none, none, none, none, none, none, none, none, none, none, none, none, none, none, none, none, none, none, none, none, none, none, none, some 36, some 37, some 38, some 39, none, none, none, some 43, some 44, some 45, some 46, some 72, none, none, none, none, none, none, none, none, none, none, none, none, none, none, none, none, none, none, none, none, none, none, none, none])
 ((.seq (.reg [⟨[], [], .nop⟩, ⟨[], [], .ca 58 [(.e 47)] 2⟩, ⟨[], [], .nop⟩, ⟨[], [], .nop⟩, ⟨[], [], .nop⟩, ⟨[], [], .nop⟩, ⟨[], [], .nop⟩] [some 0, none, none, none, none, none, none, none, none, none, none, none, none, none, none, none, none, none, none, none, none, none, none, none, none, none, none, none, none, none, none, none, none, none, none, none, some 36, some 37, some 38, some 39, none, none, none, some 43, some 44, some 45, some 46, some 47, some 72, some 73, none, none, none, none, none, none, none, none, none, none, none, none, none, none, none, none, none, none, none, none, none, none])
 ((.seq (.reg [⟨[], [], .nop⟩, ⟨[], [], .ca 57 [(.e 47)] 2⟩, ⟨[], [], .nop⟩, ⟨[], [], .nop⟩, ⟨[], [], .nop⟩, ⟨[], [], .nop⟩, ⟨[], [], .nop⟩] [some 0, none, none, none, none, none, none, none, none, none, none, none, none, none, none, none, none, none, none, none, none, none, none, none, none, none, none, none, none, none, none, none, none, none, none, none, some 36, some 37, some 38, some 39, none, none, none, some 43, some 44, some 45, some 46, none, some 48, some 49, some 72, some 73, none, none, none, none, none, none, none, none, none, none, none, none, none, none, none, none, none, none, none, none])
 ((.seq (.reg [⟨[], [], .nop⟩, ⟨[], [], .ca 251 [(.e 0)] 1⟩, ⟨[], [], .nop⟩] [none, none, none, none, none, none, none, none, none, none, none, none, none, none, none, none, none, none, none, none, none, none, none, none, none, none, none, none, none, none, none, none, none, none, none, none, some 36, some 37, some 38, some 39, none, none, none, some 43, some 44, some 45, some 46, none, some 48, some 49, some 50, some 51, some 72, none, none, none, none, none, none, none, none, none, none, none, none, none, none, none, none, none, none, none])
 ((.seq (.reg [⟨[], [], .nop⟩, ⟨[], [], .nop⟩, ⟨[], [], .bb .eql (.e 37) (.e 39)⟩, ⟨[], [], .nop⟩, ⟨[], [(72, true)], .cy (.e 36)⟩, ⟨[], [(72, true)], .cy (.e 38)⟩, ⟨[], [(72, true)], .ca 239 [(.e 73), (.e 74)] 1⟩, ⟨[], [], .pk (.e 72) (.e 75) (.c (.b false))⟩, ⟨[], [], .nop⟩, ⟨[], [(76, true)], .cy (.e 43)⟩, ⟨[], [(76, true)], .cy (.e 45)⟩, ⟨[], [(76, true)], .bi .eql (.e 77) (.e 78)⟩, ⟨[], [], .pk (.e 76) (.e 79) (.c (.b false))⟩, ⟨[], [], .nop⟩, ⟨[], [(80, true)], .cy (.e 44)⟩, ⟨[], [(80, true)], .cy (.e 46)⟩, ⟨[], [(80, true)], .bb .eql (.e 81) (.e 82)⟩, ⟨[], [], .pk (.e 80) (.e 83) (.c (.b false))⟩, ⟨[], [], .nop⟩, ⟨[], [(84, true)], .cy (.e 49)⟩, ⟨[], [(84, true)], .cy (.e 51)⟩, ⟨[], [(84, true)], .bb .eql (.e 85) (.e 86)⟩, ⟨[], [], .pk (.e 84) (.e 87) (.c (.b false))⟩, ⟨[], [], .nop⟩, ⟨[], [(88, true)], .cy (.e 48)⟩, ⟨[], [(88, true)], .cy (.e 50)⟩, ⟨[], [(88, true)], .ca 239 [(.e 89), (.e 90)] 1⟩, ⟨[], [], .pk (.e 88) (.e 91) (.c (.b false))⟩, ⟨[], [], .nop⟩, ⟨[], [(92, true)], .cy (.e 52)⟩, ⟨[], [(92, true)], .ca 48 [(.e 93)] 1⟩, ⟨[], [(92, true)], .cy (.e 52)⟩, ⟨[], [(92, true)], .ca 47 [(.e 95)] 1⟩, ⟨[], [(92, true)], .bb .eql (.e 94) (.e 96)⟩, ⟨[], [], .pk (.e 92) (.e 97) (.c (.b false))⟩, ⟨[], [], .nop⟩] [none, some 98, none, none, none, none, none, none, none, none, none, none, none, none, none, none, none, none, none, none, none, none, none, none, none, none, none, none, none, none, none, none, none, none, none, none, none, none, none, none, none, none, none, none, none, none, none, none, none, none, none, none, none, none, none, none, none, none, none, none, none, none, none, none, none, none, none, none, none, none, none, none])
 (.ret))))))))))))))))))))))))))))))))))))))))))))))))))))))))))))))))⟩

end Go.Cat

namespace Go.Cat
/-- loop.example/g03401/spec.FormatInt -/
def ir_spec_FormatInt : IF := ⟨[], 1, 9, [1],
 (.seq (.reg [⟨[], [], .cs .v (.s [])⟩] [some 0, none, none, none, none, none, none, none, none])
 ((.seq ((.seq (.reg [⟨[], [], .nop⟩, ⟨[], [], .bi .eql (.e 0) (.c (.n 0))⟩] [some 0, none, none, none, none, some 9, none, none, none])
 (.cond 5 ((.seq (.reg [⟨[], [], .cs .v (.s [48])⟩] [none, some 9, none, none, none, none, none, none, none])
  (.ret))) (.skip))))
 ((.seq (.reg [⟨[], [], .cs .v (.s [])⟩] [some 0, none, some 9, none, none, none, none, none, none])
 ((.seq (.reg [⟨[], [], .nop⟩, ⟨[], [], .bi .lss (.e 0) (.c (.n 0))⟩, ⟨[], [], .nop⟩] [some 0, none, some 2, some 9, none, none, none, none, none])
 ((.seq (.block 0 (.loop ((.seq ((.seq (.reg [⟨[], [], .nop⟩, ⟨[], [], .bi .neq (.e 0) (.c (.n 0))⟩] [some 0, none, some 2, some 3, none, none, some 9, none, none])
   (.cond 6 (.skip) (.exit 0))))
   (.block 1 ((.seq (.reg [⟨[], [], .nop⟩, ⟨[], [], .bi .rem (.e 0) (.c (.n 10))⟩, ⟨[], [], .nop⟩] [some 0, none, some 2, some 3, some 9, none, none, none, none])
    ((.seq ((.seq (.reg [⟨[], [], .nop⟩, ⟨[], [], .bi .lss (.e 4) (.c (.n 0))⟩] [some 0, none, some 2, some 3, some 4, none, none, some 9, none])
    (.cond 7 (.reg [⟨[], [], .nop⟩, ⟨[], [], .un .neg (.e 4)⟩, ⟨[], [], .nop⟩] [some 0, none, some 2, some 3, some 9, none, none, none, none]) (.skip))))
    ((.seq (.reg [⟨[], [], .nop⟩, ⟨[], [], .bi .add (.c (.n 48)) (.e 4)⟩, ⟨[], [], .cv .u8 (.e 9)⟩, ⟨[], [], .li (.o .v) [(.e 10)]⟩, ⟨[], [], .bs (.e 11)⟩, ⟨[], [], .nop⟩, ⟨[], [], .bi .add (.e 12) (.e 2)⟩, ⟨[], [], .nop⟩] [some 0, none, some 13, some 3, none, none, none, none, none])
    (.reg [⟨[], [], .nop⟩, ⟨[], [], .bi .quo (.e 0) (.c (.n 10))⟩, ⟨[], [], .nop⟩] [some 9, none, some 2, some 3, none, none, none, none, none]))))))))))))
 ((.seq ((.seq (.reg [⟨[], [], .nop⟩] [none, none, some 2, none, none, none, none, none, some 3])
 (.cond 8 ((.seq (.reg [⟨[], [], .nop⟩, ⟨[], [], .bi .add (.c (.s [45])) (.e 2)⟩, ⟨[], [], .nop⟩] [none, some 9, none, none, none, none, none, none, none])
  (.ret))) (.skip))))
 ((.seq (.reg [⟨[], [], .nop⟩, ⟨[], [], .nop⟩] [none, some 2, none, none, none, none, none, none, none])
 (.ret))))))))))))))⟩

/-- loop.example/g03401/spec.l1Below -/
def ir_spec_l1Below : IF := ⟨[], 2, 9, [2, 0],
 (.seq (.reg [⟨[], [], .cs .v (.n 0)⟩] [some 0, some 1, none, none, none, none, none, none, none])
 ((.seq ((.seq (.reg [⟨[], [], .nop⟩, ⟨[], [], .bi .leq (.e 1) (.c (.n 0))⟩] [some 0, some 1, none, none, none, none, none, some 9, none])
 (.cond 7 ((.seq (.reg [⟨[], [], .cs .v (.n 0)⟩] [some 0, none, some 9, none, none, none, none, none, none])
  (.ret))) (.skip))))
 ((.seq ((.seq (.reg [⟨[], [], .nop⟩, ⟨[], [], .bi .leq (.e 1) (.c (.n 256))⟩] [some 0, some 1, none, none, none, none, none, none, some 9])
 (.cond 8 ((.seq (.reg [⟨[], [], .nop⟩, ⟨[], [], .ca 316 [(.e 0)] 2⟩, ⟨[], [], .nop⟩, ⟨[], [], .bi .rem (.e 9) (.e 1)⟩, ⟨[], [], .nop⟩] [some 10, none, some 11, none, none, none, none, none, none])
  (.ret))) (.skip))))
 ((.seq (.reg [⟨[], [], .nop⟩, ⟨[], [], .ca 316 [(.e 0)] 2⟩, ⟨[], [], .nop⟩] [some 10, some 1, none, some 9, none, none, none, none, none])
 ((.seq (.reg [⟨[], [], .nop⟩, ⟨[], [], .ca 316 [(.e 0)] 2⟩, ⟨[], [], .nop⟩] [some 10, some 1, none, some 3, some 9, none, none, none, none])
 ((.seq (.reg [⟨[], [], .nop⟩, ⟨[], [], .ca 316 [(.e 0)] 2⟩, ⟨[], [], .nop⟩] [some 10, some 1, none, some 3, some 4, some 9, none, none, none])
 ((.seq (.reg [⟨[], [], .nop⟩, ⟨[], [], .ca 316 [(.e 0)] 2⟩, ⟨[], [], .nop⟩] [some 10, some 1, none, some 3, some 4, some 5, some 9, none, none])
 ((.seq (.reg [⟨[], [], .nop⟩, ⟨[], [], .bi .mul (.e 3) (.c (.n 16777216))⟩, ⟨[], [], .nop⟩, ⟨[], [], .bi .mul (.e 4) (.c (.n 65536))⟩, ⟨[], [], .bi .add (.e 9) (.e 10)⟩, ⟨[], [], .nop⟩, ⟨[], [], .bi .mul (.e 5) (.c (.n 256))⟩, ⟨[], [], .bi .add (.e 11) (.e 12)⟩, ⟨[], [], .nop⟩, ⟨[], [], .bi .add (.e 13) (.e 6)⟩, ⟨[], [], .nop⟩, ⟨[], [], .bi .rem (.e 14) (.e 1)⟩, ⟨[], [], .nop⟩] [some 0, none, some 15, none, none, none, none, none, none])
 (.ret))))))))))))))))⟩

/-- loop.example/g03401/spec.l1Byte -/
def ir_spec_l1Byte : IF := ⟨[], 1, 4, [1, 0],
 (.seq (.reg [⟨[], [], .cs .v (.n 0)⟩] [some 0, none, none, none])
 ((.seq (.reg [⟨[], [], .nop⟩, ⟨[], [], .nop⟩, ⟨[], [], .nop⟩, ⟨[], [], .gt (.e 0) [.k 2]⟩, ⟨[], [], .nop⟩, ⟨[], [], .bi .mul (.e 4) (.c (.n 6364136223846793005))⟩, ⟨[], [], .bi .add (.e 5) (.c (.n 1442695040888963407))⟩, ⟨[], [], .nop⟩, ⟨[], [], .gt (.e 0) [.k 2]⟩, ⟨[], [], .up 0 [.k 2] (.e 6)⟩] [some 8, none, none, none])
 ((.seq (.reg [⟨[], [], .nop⟩, ⟨[], [], .nop⟩, ⟨[], [], .gt (.e 0) [.k 2]⟩, ⟨[], [], .nop⟩, ⟨[], [], .bi .shr (.e 4) (.c (.i .u64 (33)))⟩, ⟨[], [], .nop⟩, ⟨[], [], .nop⟩, ⟨[], [], .gt (.e 0) [.k 2]⟩, ⟨[], [], .nop⟩, ⟨[], [], .bi .shr (.e 6) (.c (.i .u64 (45)))⟩, ⟨[], [], .bi .xor (.e 5) (.e 7)⟩, ⟨[], [], .bi .and (.e 8) (.c (.n 255))⟩, ⟨[], [], .nop⟩] [some 0, none, some 9, none])
 ((.seq ((.seq (.reg [⟨[], [], .nop⟩, ⟨[], [], .nop⟩, ⟨[], [], .gt (.e 0) [.k 1]⟩, ⟨[], [], .nop⟩, ⟨[], [], .nop⟩, ⟨[], [], .nop⟩, ⟨[], [], .gt (.e 0) [.k 0]⟩, ⟨[], [], .nop⟩, ⟨[], [], .ln (.e 5) []⟩, ⟨[], [], .bi .lss (.e 4) (.e 6)⟩] [some 0, none, some 2, some 7])
 (.cond 3 ((.seq (.reg [⟨[], [], .nop⟩, ⟨[], [], .nop⟩, ⟨[], [], .nop⟩, ⟨[], [], .gt (.e 0) [.k 0]⟩, ⟨[], [], .nop⟩, ⟨[], [], .nop⟩, ⟨[], [], .nop⟩, ⟨[], [], .gt (.e 0) [.k 1]⟩, ⟨[], [], .nop⟩, ⟨[], [], .ix (.e 4) [] (.e 5)⟩, ⟨[], [], .nop⟩, ⟨[], [], .cv .i64 (.e 6)⟩, ⟨[], [], .bi .add (.e 2) (.e 7)⟩, ⟨[], [], .bi .and (.e 8) (.c (.n 255))⟩, ⟨[], [], .nop⟩] [some 0, none, some 9, none])
  (.reg [⟨[], [], .nop⟩, ⟨[], [], .nop⟩, ⟨[], [], .nop⟩, ⟨[], [], .gt (.e 0) [.k 1]⟩, ⟨[], [], .nop⟩, ⟨[], [], .bi .add (.e 4) (.c (.n 1))⟩, ⟨[], [], .nop⟩, ⟨[], [], .gt (.e 0) [.k 1]⟩, ⟨[], [], .up 0 [.k 1] (.e 5)⟩] [some 7, none, some 2, none]))) (.skip))))
 ((.seq (.reg [⟨[], [], .nop⟩, ⟨[], [], .nop⟩] [some 0, some 2, none, none])
 (.ret))))))))))⟩

/-- loop.example/g03401/spec.l1In -/
def ir_spec_l1In : IF := ⟨[], 3, 4, [3],
 (.seq (.reg [⟨[], [], .cs .v (.b false)⟩] [some 0, some 1, some 2, none])
 ((.seq (.reg [⟨[], [], .nop⟩, ⟨[], [], .nop⟩, ⟨[], [], .bi .geq (.e 0) (.e 1)⟩, ⟨[], [], .nop⟩, ⟨[], [(4, true)], .cy (.e 0)⟩, ⟨[], [(4, true)], .cy (.e 2)⟩, ⟨[], [(4, true)], .bi .leq (.e 5) (.e 6)⟩, ⟨[], [], .pk (.e 4) (.e 7) (.c (.b false))⟩, ⟨[], [], .nop⟩] [none, none, none, some 8])
 (.ret))))⟩

/-- loop.example/g03401/spec.l1New -/
def ir_spec_l1New : IF := ⟨[], 1, 5, [1],
 (.seq (.reg [⟨[], [], .cs .v .z⟩] [some 0, none, none, none, none])
 ((.seq (.reg [⟨[], [], .nop⟩, ⟨[], [], .ln (.e 0) []⟩, ⟨[], [], .bi .add (.c (.n 10101)) (.e 5)⟩, ⟨[], [], .nop⟩] [some 0, none, some 6, none, none])
 ((.seq ((.seq (.reg [⟨[], [], .cs .v (.n 0)⟩] [some 0, none, some 2, some 5, none])
 (.block 0 (.loop ((.seq ((.seq (.reg [⟨[], [], .nop⟩, ⟨[], [], .nop⟩, ⟨[], [], .ln (.e 0) []⟩, ⟨[], [], .bi .lss (.e 3) (.e 5)⟩, ⟨[], [], .nop⟩, ⟨[], [(6, true)], .cy (.e 3)⟩, ⟨[], [(6, true)], .bi .lss (.e 7) (.c (.n 4000))⟩, ⟨[], [], .pk (.e 6) (.e 8) (.c (.b false))⟩] [some 0, none, some 2, some 3, some 9])
   (.cond 4 (.skip) (.exit 0))))
   ((.seq (.block 1 (.reg [⟨[], [], .nop⟩, ⟨[], [], .bi .mul (.e 2) (.c (.n 131))⟩, ⟨[], [], .nop⟩, ⟨[], [], .nop⟩, ⟨[], [], .ix (.e 0) [] (.e 3)⟩, ⟨[], [], .nop⟩, ⟨[], [], .cv .i64 (.e 6)⟩, ⟨[], [], .bi .add (.e 5) (.e 7)⟩, ⟨[], [], .bi .add (.e 8) (.c (.n 7))⟩, ⟨[], [], .bi .and (.e 9) (.c (.n 1073741823))⟩, ⟨[], [], .nop⟩] [some 0, none, some 10, some 3, none]))
   (.reg [⟨[], [], .nop⟩, ⟨[], [], .bi .add (.e 3) (.c (.n 1))⟩, ⟨[], [], .nop⟩] [some 0, none, some 2, some 5, none])))))))))
 ((.seq (.reg [⟨[], [], .nop⟩, ⟨[], [], .nop⟩, ⟨[], [], .bg 0 [((.e 0), 0), ((.c (.n 0)), 0), ((.e 2), 0)]⟩, ⟨[], [], .wl 3 (.e 5)⟩, ⟨[], [], .nop⟩] [none, some 6, none, none, none])
 (.ret))))))))⟩

/-- loop.example/g03401/spec.l1Once -/
def ir_spec_l1Once : IF := ⟨[], 2, 3, [2, 0],
 (.seq (.reg [⟨[], [], .cs .v (.b false)⟩] [some 0, some 1, none])
 ((.seq (.reg [⟨[], [], .nop⟩, ⟨[], [], .nop⟩, ⟨[], [], .ca 289 [(.e 0), (.e 1)] 2⟩, ⟨[], [], .bi .eql (.e 3) (.c (.n 0))⟩, ⟨[], [], .nop⟩] [some 4, none, some 5])
 (.ret))))⟩

/-- loop.example/g03401/spec.l1Pick -/
def ir_spec_l1Pick : IF := ⟨[], 2, 3, [2, 0],
 (.seq (.reg [⟨[], [], .cs .v (.s [])⟩] [some 0, some 1, none])
 ((.seq (.reg [⟨[], [], .nop⟩, ⟨[], [], .nop⟩, ⟨[], [], .nop⟩, ⟨[], [], .ln (.e 1) []⟩, ⟨[], [], .ca 289 [(.e 0), (.e 3)] 2⟩, ⟨[], [], .iy (.e 1) (.e 4)⟩, ⟨[], [], .nop⟩, ⟨[], [], .nop⟩] [some 5, none, some 6])
 (.ret))))⟩

/-- loop.example/g03401/spec.l1PickInt -/
def ir_spec_l1PickInt : IF := ⟨[], 2, 3, [2, 0],
 (.seq (.reg [⟨[], [], .cs .v (.n 0)⟩] [some 0, some 1, none])
 ((.seq (.reg [⟨[], [], .nop⟩, ⟨[], [], .nop⟩, ⟨[], [], .nop⟩, ⟨[], [], .ln (.e 1) []⟩, ⟨[], [], .ca 289 [(.e 0), (.e 3)] 2⟩, ⟨[], [], .iy (.e 1) (.e 4)⟩, ⟨[], [], .nop⟩, ⟨[], [], .nop⟩] [some 5, none, some 6])
 (.ret))))⟩

/-- loop.example/g03401/spec.l1Spoil -/
def ir_spec_l1Spoil : IF := ⟨[], 2, 9, [2, 0],
 (.seq (.reg [⟨[], [], .cs .v (.s [])⟩] [some 0, some 1, none, none, none, none, none, none, none])
 ((.seq ((.seq (.reg [⟨[], [], .nop⟩, ⟨[], [], .sn (.e 1)⟩, ⟨[], [], .bi .eql (.e 9) (.c (.n 0))⟩] [some 0, some 1, none, none, some 10, none, none, none, none])
 (.cond 4 ((.seq (.reg [⟨[], [], .nop⟩, ⟨[], [], .ca 327 [(.e 0), (.c (.n 3))] 2⟩, ⟨[], [], .nop⟩] [some 10, none, some 9, none, none, none, none, none, none])
  (.ret))) (.skip))))
 ((.seq (.reg [⟨[], [], .nop⟩, ⟨[], [], .nop⟩, ⟨[], [], .sn (.e 1)⟩, ⟨[], [], .ca 289 [(.e 0), (.e 9)] 2⟩, ⟨[], [], .nop⟩] [some 11, some 1, none, some 10, none, none, none, none, none])
 ((.seq ((.seq (.reg [⟨[], [], .nop⟩, ⟨[], [], .ca 289 [(.e 0), (.c (.n 4))] 2⟩] [some 10, some 1, none, some 3, none, some 9, none, none, none])
 (.block 0 ((.seq (.reg [⟨[], [], .bi .eql (.e 5) (.c (.n 0))⟩, ⟨[], [], .nop⟩] [some 0, some 1, none, some 3, none, some 5, some 9, none, none])
  (.cond 6 ((.seq (.reg [⟨[], [], .nop⟩, ⟨[], [], .nop⟩, ⟨[], [], .ss (.e 1) none (some (.e 3))⟩, ⟨[], [], .nop⟩, ⟨[], [], .nop⟩, ⟨[], [], .bi .add (.e 3) (.c (.n 1))⟩, ⟨[], [], .ss (.e 1) (some (.e 10)) none⟩, ⟨[], [], .bi .add (.e 9) (.e 11)⟩, ⟨[], [], .nop⟩] [some 0, none, some 12, none, none, none, none, none, none])
   (.ret))) ((.seq (.reg [⟨[], [], .bi .eql (.e 5) (.c (.n 1))⟩, ⟨[], [], .nop⟩] [some 0, some 1, none, some 3, none, some 5, none, some 9, none])
   (.cond 7 ((.seq (.reg [⟨[], [], .nop⟩, ⟨[], [], .nop⟩, ⟨[], [], .ss (.e 1) none (some (.e 3))⟩, ⟨[], [], .nop⟩, ⟨[], [], .ca 316 [(.e 0)] 2⟩, ⟨[], [], .cv .u8 (.e 10)⟩, ⟨[], [], .li (.o .v) [(.e 12)]⟩, ⟨[], [], .bs (.e 13)⟩, ⟨[], [], .bi .add (.e 9) (.e 14)⟩, ⟨[], [], .nop⟩, ⟨[], [], .nop⟩, ⟨[], [], .ss (.e 1) (some (.e 3)) none⟩, ⟨[], [], .bi .add (.e 15) (.e 16)⟩, ⟨[], [], .nop⟩] [some 11, none, some 17, none, none, none, none, none, none])
    (.ret))) ((.seq (.reg [⟨[], [], .bi .eql (.e 5) (.c (.n 2))⟩, ⟨[], [], .nop⟩] [some 0, some 1, none, some 3, none, none, none, none, some 9])
    (.cond 8 ((.seq (.reg [⟨[], [], .nop⟩, ⟨[], [], .nop⟩, ⟨[], [], .ss (.e 1) none (some (.e 3))⟩, ⟨[], [], .nop⟩] [some 0, none, some 9, none, none, none, none, none, none])
     (.ret))) (.skip)))))))))))))
 ((.seq (.reg [⟨[], [], .nop⟩, ⟨[], [], .nop⟩, ⟨[], [], .ss (.e 1) none (some (.e 3))⟩, ⟨[], [], .nop⟩, ⟨[], [], .nop⟩, ⟨[], [], .sx (.e 1) (.e 3)⟩, ⟨[], [], .cv .i64 (.e 10)⟩, ⟨[], [], .nop⟩, ⟨[], [], .ca 289 [(.e 0), (.c (.n 255))] 2⟩, ⟨[], [], .bi .add (.c (.n 1)) (.e 12)⟩, ⟨[], [], .bi .xor (.e 11) (.e 14)⟩, ⟨[], [], .cv .u8 (.e 15)⟩, ⟨[], [], .li (.o .v) [(.e 16)]⟩, ⟨[], [], .bs (.e 17)⟩, ⟨[], [], .bi .add (.e 9) (.e 18)⟩, ⟨[], [], .nop⟩, ⟨[], [], .nop⟩, ⟨[], [], .bi .add (.e 3) (.c (.n 1))⟩, ⟨[], [], .ss (.e 1) (some (.e 20)) none⟩, ⟨[], [], .bi .add (.e 19) (.e 21)⟩, ⟨[], [], .nop⟩] [some 13, none, some 22, none, none, none, none, none, none])
 (.ret))))))))))⟩

/-- loop.example/g03401/spec.l1Text -/
def ir_spec_l1Text : IF := ⟨[], 2, 10, [2, 0],
 (.seq (.reg [⟨[], [], .cs .v (.s [])⟩] [some 0, some 1, none, none, none, none, none, none, none, none])
 ((.seq (.reg [⟨[], [], .li (.o .v) []⟩, ⟨[], [], .nop⟩] [some 0, some 1, none, some 10, none, none, none, none, none, none])
 ((.seq (.reg [⟨[], [], .nop⟩, ⟨[], [], .ca 289 [(.e 0), (.c (.n 4))] 2⟩, ⟨[], [], .nop⟩] [some 11, some 1, none, some 3, some 10, none, none, none, none, none])
 ((.seq ((.seq (.reg [⟨[], [], .nop⟩, ⟨[], [], .nop⟩, ⟨[], [], .bi .add (.e 1) (.c (.n 1))⟩, ⟨[], [], .ca 289 [(.e 0), (.e 10)] 2⟩, ⟨[], [], .nop⟩] [some 12, none, none, some 3, some 4, some 11, none, none, none, none])
 (.block 0 (.loop ((.seq ((.seq (.reg [⟨[], [], .nop⟩, ⟨[], [], .bi .gtr (.e 5) (.c (.n 0))⟩] [some 0, none, none, some 3, some 4, some 5, none, some 10, none, none])
   (.cond 7 (.skip) (.exit 0))))
   ((.seq (.block 1 ((.seq (.reg [⟨[], [], .nop⟩, ⟨[], [], .ca 316 [(.e 0)] 2⟩, ⟨[], [], .nop⟩] [some 11, none, none, some 3, some 4, some 5, some 10, none, none, none])
    ((.seq ((.seq (.reg [⟨[], [], .nop⟩, ⟨[], [], .bi .eql (.e 4) (.c (.n 1))⟩] [some 0, none, none, some 3, some 4, some 5, some 6, none, some 10, none])
    (.cond 8 (.reg [⟨[], [], .nop⟩, ⟨[], [], .bi .rem (.e 6) (.c (.n 2))⟩, ⟨[], [], .nop⟩] [some 0, none, none, some 3, some 4, some 5, some 10, none, none, none]) (.skip))))
    ((.seq ((.seq (.reg [⟨[], [], .nop⟩, ⟨[], [], .bi .eql (.e 4) (.c (.n 2))⟩] [some 0, none, none, some 3, some 4, some 5, some 6, none, none, some 10])
    (.cond 9 (.reg [⟨[], [], .nop⟩, ⟨[], [], .bi .rem (.e 6) (.c (.n 4))⟩, ⟨[], [], .bi .add (.c (.n 97)) (.e 10)⟩, ⟨[], [], .nop⟩] [some 0, none, none, some 3, some 4, some 5, some 11, none, none, none]) (.skip))))
    (.reg [⟨[], [], .nop⟩, ⟨[], [], .nop⟩, ⟨[], [], .cv .u8 (.e 6)⟩, ⟨[], [], .li (.o .v) [(.e 10)]⟩, ⟨[], [], .ap false (.e 3) (.e 11)⟩, ⟨[], [], .nop⟩] [some 0, none, none, some 12, some 4, some 5, none, none, none, none]))))))))
   (.reg [⟨[], [], .nop⟩, ⟨[], [], .bi .sub (.e 5) (.c (.n 1))⟩, ⟨[], [], .nop⟩] [some 0, none, none, some 3, some 4, some 10, none, none, none, none])))))))))
 ((.seq (.reg [⟨[], [], .nop⟩, ⟨[], [], .bs (.e 3)⟩, ⟨[], [], .nop⟩] [some 0, none, some 10, none, none, none, none, none, none, none])
 (.ret))))))))))⟩

end Go.Cat

namespace Go.Cat
/-- loop.example/g03401/spec.BallotNumber -/
def ir_spec_BallotNumber : IF := ⟨[], 2, 4, [2],
 (.seq (.reg [⟨[], [], .cs .v (.n 0)⟩] [some 0, some 1, none, none])
 ((.seq ((.seq (.reg [⟨[], [], .nop⟩, ⟨[], [], .ca 22 [(.e 0), (.c (.n 0)), (.c (.n 15))] 1⟩, ⟨[], [], .un .not (.e 4)⟩, ⟨[], [], .nop⟩, ⟨[], [(5, false)], .cy (.e 1)⟩, ⟨[], [(5, false)], .cy (.e 0)⟩, ⟨[], [(5, false)], .ca 22 [(.e 6), (.e 7), (.c (.n 15))] 1⟩, ⟨[], [(5, false)], .un .not (.e 8)⟩, ⟨[], [], .pk (.e 5) (.c (.b true)) (.e 9)⟩] [some 0, some 1, none, some 10])
 (.cond 3 ((.seq (.reg [⟨[], [], .cs .v (.n 0)⟩] [none, none, some 4, none])
  (.ret))) (.skip))))
 ((.seq (.reg [⟨[], [], .nop⟩, ⟨[], [], .nop⟩, ⟨[], [], .ca 84 [(.e 0), (.e 1)] 1⟩, ⟨[], [], .nop⟩] [none, none, some 4, none])
 (.ret))))))⟩

/-- loop.example/g03401/spec.CatalanNumber -/
def ir_spec_CatalanNumber : IF := ⟨[], 1, 3, [1],
 (.seq (.reg [⟨[], [], .cs .v (.n 0)⟩] [some 0, none, none])
 ((.seq ((.seq (.reg [⟨[], [], .nop⟩, ⟨[], [], .ca 22 [(.e 0), (.c (.n 0)), (.c (.n 15))] 1⟩, ⟨[], [], .un .not (.e 3)⟩] [some 0, none, some 4])
 (.cond 2 ((.seq (.reg [⟨[], [], .cs .v (.n (-1))⟩] [none, some 3, none])
  (.ret))) (.skip))))
 ((.seq (.reg [⟨[], [], .nop⟩, ⟨[], [], .nop⟩, ⟨[], [], .ca 84 [(.e 0), (.e 0)] 1⟩, ⟨[], [], .nop⟩] [none, some 3, none])
 (.ret))))))⟩

/-- loop.example/g03401/spec.DrawBallotNumber -/
def ir_spec_DrawBallotNumber : IF := ⟨[], 1, 5, [1, 2],
 (.seq (.reg [⟨[], [], .cs .v (.n 0)⟩, ⟨[], [], .cs .v (.n 0)⟩] [some 0, none, none, none, none])
 ((.seq (.reg [⟨[], [], .nop⟩, ⟨[], [], .ca 288 [(.e 0)] 1⟩, ⟨[], [], .nop⟩] [none, none, none, some 5, none])
 ((.seq (.reg [⟨[], [], .nop⟩, ⟨[], [], .ca 289 [(.e 3), (.c (.n 18))] 2⟩, ⟨[], [], .bi .sub (.e 5) (.c (.n 1))⟩, ⟨[], [], .nop⟩] [none, none, none, some 6, some 7])
 ((.seq (.reg [⟨[], [], .nop⟩, ⟨[], [], .nop⟩, ⟨[], [], .nop⟩, ⟨[], [], .ca 289 [(.e 3), (.c (.n 5))] 2⟩, ⟨[], [], .bi .add (.e 4) (.e 5)⟩, ⟨[], [], .bi .sub (.e 7) (.c (.n 1))⟩, ⟨[], [], .nop⟩, ⟨[], [], .nop⟩] [none, some 4, some 8, none, none])
 (.ret))))))))⟩

/-- loop.example/g03401/spec.DrawCatalanNumber -/
def ir_spec_DrawCatalanNumber : IF := ⟨[], 1, 2, [1],
 (.seq (.reg [⟨[], [], .cs .v (.n 0)⟩] [some 0, none])
 ((.seq (.reg [⟨[], [], .nop⟩, ⟨[], [], .ca 288 [(.e 0)] 1⟩, ⟨[], [], .ca 289 [(.e 2), (.c (.n 18))] 2⟩, ⟨[], [], .bi .sub (.e 3) (.c (.n 1))⟩, ⟨[], [], .nop⟩] [none, some 5])
 (.ret))))⟩

/-- loop.example/g03401/spec.DrawNarayanaNumber -/
def ir_spec_DrawNarayanaNumber : IF := ⟨[], 1, 5, [1, 2],
 (.seq (.reg [⟨[], [], .cs .v (.n 0)⟩, ⟨[], [], .cs .v (.n 0)⟩] [some 0, none, none, none, none])
 ((.seq (.reg [⟨[], [], .nop⟩, ⟨[], [], .ca 288 [(.e 0)] 1⟩, ⟨[], [], .nop⟩] [none, none, none, some 5, none])
 ((.seq (.reg [⟨[], [], .nop⟩, ⟨[], [], .ca 289 [(.e 3), (.c (.n 18))] 2⟩, ⟨[], [], .bi .sub (.e 5) (.c (.n 1))⟩, ⟨[], [], .nop⟩] [none, none, none, some 6, some 7])
 ((.seq (.reg [⟨[], [], .nop⟩, ⟨[], [], .nop⟩, ⟨[], [], .ca 289 [(.e 3), (.c (.n 9))] 2⟩, ⟨[], [], .bi .sub (.e 5) (.c (.n 1))⟩, ⟨[], [], .nop⟩, ⟨[], [], .nop⟩] [none, some 4, some 7, none, none])
 (.ret))))))))⟩

/-- loop.example/g03401/spec.DrawPathsOf -/
def ir_spec_DrawPathsOf : IF := ⟨[], 1, 2, [1],
 (.seq (.reg [⟨[], [], .cs .v (.n 0)⟩] [some 0, none])
 ((.seq (.reg [⟨[], [], .nop⟩, ⟨[], [], .ca 288 [(.e 0)] 1⟩, ⟨[], [], .ca 289 [(.e 2), (.c (.n 9))] 2⟩, ⟨[], [], .bi .sub (.e 3) (.c (.n 1))⟩, ⟨[], [], .nop⟩] [none, some 5])
 (.ret))))⟩

/-- loop.example/g03401/spec.DrawRankPath -/
def ir_spec_DrawRankPath : IF := ⟨[], 1, 2, [1],
 (.seq (.reg [⟨[], [], .cs .v (.s [])⟩] [some 0, none])
 ((.seq (.reg [⟨[], [], .nop⟩, ⟨[], [], .ca 288 [(.e 0)] 1⟩, ⟨[], [], .ca 290 [(.e 2)] 2⟩, ⟨[], [], .nop⟩] [none, some 3])
 (.ret))))⟩

/-- loop.example/g03401/spec.DrawUnrankPath -/
def ir_spec_DrawUnrankPath : IF := ⟨[], 1, 5, [1, 2],
 (.seq (.reg [⟨[], [], .cs .v (.n 0)⟩, ⟨[], [], .cs .v (.n 0)⟩] [some 0, none, none, none, none])
 ((.seq (.reg [⟨[], [], .nop⟩, ⟨[], [], .ca 288 [(.e 0)] 1⟩, ⟨[], [], .nop⟩] [none, none, none, some 5, none])
 ((.seq (.reg [⟨[], [], .nop⟩, ⟨[], [], .ca 289 [(.e 3), (.c (.n 11))] 2⟩, ⟨[], [], .bi .sub (.e 5) (.c (.n 1))⟩, ⟨[], [], .nop⟩] [none, none, none, some 6, some 7])
 ((.seq (.reg [⟨[], [], .nop⟩, ⟨[], [], .nop⟩, ⟨[], [], .nop⟩, ⟨[], [], .ca 289 [(.e 3), (.c (.n 100))] 2⟩, ⟨[], [], .li (.o .v) [(.c (.n 0)), (.c (.n 1)), (.c (.n 2)), (.c (.n 4)), (.c (.n 13)), (.c (.n 41)), (.c (.n 131)), (.c (.n 1429)), (.c (.n (-1))), (.e 5)]⟩, ⟨[], [], .ca 313 [(.e 6), (.e 7)] 2⟩, ⟨[], [], .nop⟩, ⟨[], [], .nop⟩] [none, some 4, some 8, none, none])
 (.ret))))))))⟩

/-- loop.example/g03401/spec.NarayanaNumber -/
def ir_spec_NarayanaNumber : IF := ⟨[], 2, 6, [2],
 (.seq (.reg [⟨[], [], .cs .v (.n 0)⟩] [some 0, some 1, none, none, none, none])
 ((.seq ((.seq (.reg [⟨[], [], .nop⟩, ⟨[], [], .ca 22 [(.e 0), (.c (.n 0)), (.c (.n 15))] 1⟩, ⟨[], [], .un .not (.e 6)⟩, ⟨[], [], .nop⟩, ⟨[], [(7, false)], .cy (.e 1)⟩, ⟨[], [(7, false)], .cy (.e 0)⟩, ⟨[], [(7, false)], .ca 22 [(.e 8), (.c (.n 0)), (.e 9)] 1⟩, ⟨[], [(7, false)], .un .not (.e 10)⟩, ⟨[], [], .pk (.e 7) (.c (.b true)) (.e 11)⟩] [some 0, some 1, none, some 12, none, none])
 (.cond 3 ((.seq (.reg [⟨[], [], .cs .v (.n 0)⟩] [none, none, some 6, none, none, none])
  (.ret))) (.skip))))
 ((.seq ((.seq (.reg [⟨[], [], .nop⟩, ⟨[], [], .bi .eql (.e 0) (.c (.n 0))⟩] [some 0, some 1, none, none, some 6, none])
 (.cond 4 ((.seq (.reg [⟨[], [], .cs .v (.n 1)⟩] [none, none, some 6, none, none, none])
  (.ret))) (.skip))))
 ((.seq ((.seq (.reg [⟨[], [], .nop⟩, ⟨[], [], .bi .eql (.e 1) (.c (.n 0))⟩] [some 0, some 1, none, none, none, some 6])
 (.cond 5 ((.seq (.reg [⟨[], [], .cs .v (.n 0)⟩] [none, none, some 6, none, none, none])
  (.ret))) (.skip))))
 ((.seq (.reg [⟨[], [], .nop⟩, ⟨[], [], .nop⟩, ⟨[], [], .ca 24 [(.e 0), (.e 1)] 1⟩, ⟨[], [], .nop⟩, ⟨[], [], .nop⟩, ⟨[], [], .bi .sub (.e 1) (.c (.n 1))⟩, ⟨[], [], .ca 24 [(.e 0), (.e 7)] 1⟩, ⟨[], [], .bi .mul (.e 6) (.e 8)⟩, ⟨[], [], .nop⟩, ⟨[], [], .bi .quo (.e 9) (.e 0)⟩, ⟨[], [], .nop⟩] [none, none, some 10, none, none, none])
 (.ret))))))))))⟩

/-- loop.example/g03401/spec.PathsOf -/
def ir_spec_PathsOf : IF := ⟨[], 1, 3, [1],
 (.seq (.reg [⟨[], [], .cs (.o .v) (.l [])⟩] [some 0, none, none])
 ((.seq ((.seq (.reg [⟨[], [], .nop⟩, ⟨[], [], .ca 22 [(.e 0), (.c (.n 0)), (.c (.n 6))] 1⟩, ⟨[], [], .un .not (.e 3)⟩] [some 0, none, some 4])
 (.cond 2 ((.seq (.reg [⟨[], [], .li (.o .v) []⟩, ⟨[], [], .nop⟩] [none, some 3, none])
  (.ret))) (.skip))))
 ((.seq (.reg [⟨[], [], .nop⟩, ⟨[], [], .nop⟩, ⟨[], [], .ca 292 [(.c (.s [])), (.e 0), (.e 0)] 1⟩, ⟨[], [], .nop⟩] [none, some 3, none])
 (.ret))))))⟩

/-- loop.example/g03401/spec.RankPath -/
def ir_spec_RankPath : IF := ⟨[], 1, 10, [1],
 (.seq (.reg [⟨[], [], .cs .v (.n 0)⟩] [some 0, none, none, none, none, none, none, none, none, none])
 ((.seq ((.seq (.reg [⟨[], [], .nop⟩, ⟨[], [], .ca 64 [(.e 0)] 1⟩, ⟨[], [], .un .not (.e 10)⟩] [some 0, none, none, none, none, none, some 11, none, none, none])
 (.cond 6 ((.seq (.reg [⟨[], [], .cs .v (.n (-1))⟩] [none, some 10, none, none, none, none, none, none, none, none])
  (.ret))) (.skip))))
 ((.seq (.reg [⟨[], [], .nop⟩, ⟨[], [], .sn (.e 0)⟩, ⟨[], [], .bi .quo (.e 10) (.c (.n 2))⟩, ⟨[], [], .nop⟩] [some 0, none, some 11, none, none, none, none, none, none, none])
 ((.seq (.reg [⟨[], [], .nop⟩, ⟨[], [], .nop⟩] [some 0, none, some 2, some 2, none, none, none, none, none, none])
 ((.seq (.reg [⟨[], [], .cs .v (.n 0)⟩] [some 0, none, some 2, some 3, some 10, none, none, none, none, none])
 ((.seq ((.seq (.reg [⟨[], [], .cs .v (.n 0)⟩] [some 0, none, some 2, some 3, some 4, some 10, none, none, none, none])
 (.block 0 (.loop ((.seq ((.seq (.reg [⟨[], [], .nop⟩, ⟨[], [], .nop⟩, ⟨[], [], .sn (.e 0)⟩, ⟨[], [], .bi .lss (.e 5) (.e 10)⟩] [some 0, none, some 2, some 3, some 4, some 5, none, some 11, none, none])
   (.cond 7 (.skip) (.exit 0))))
   ((.seq (.block 1 ((.seq ((.seq (.reg [⟨[], [], .nop⟩, ⟨[], [], .nop⟩, ⟨[], [], .sx (.e 0) (.e 5)⟩, ⟨[], [], .bi .eql (.e 10) (.c (.y 117))⟩] [some 0, none, some 2, some 3, some 4, some 5, none, none, some 11, none])
    (.cond 8 ((.seq (.reg [⟨[], [], .nop⟩, ⟨[], [], .bi .sub (.e 2) (.c (.n 1))⟩, ⟨[], [], .nop⟩] [some 0, none, some 10, some 3, some 4, some 5, none, none, none, none])
     (.exit 1))) (.skip))))
    ((.seq ((.seq (.reg [⟨[], [], .nop⟩, ⟨[], [], .bi .gtr (.e 2) (.c (.n 0))⟩] [some 0, none, some 2, some 3, some 4, some 5, none, none, none, some 10])
    (.cond 9 (.reg [⟨[], [], .nop⟩, ⟨[], [], .nop⟩, ⟨[], [], .bi .sub (.e 2) (.c (.n 1))⟩, ⟨[], [], .nop⟩, ⟨[], [], .ca 84 [(.e 10), (.e 3)] 1⟩, ⟨[], [], .bi .add (.e 4) (.e 11)⟩, ⟨[], [], .nop⟩] [some 0, none, some 2, some 3, some 12, some 5, none, none, none, none]) (.skip))))
    (.reg [⟨[], [], .nop⟩, ⟨[], [], .bi .sub (.e 3) (.c (.n 1))⟩, ⟨[], [], .nop⟩] [some 0, none, some 2, some 10, some 4, some 5, none, none, none, none]))))))
   (.reg [⟨[], [], .nop⟩, ⟨[], [], .bi .add (.e 5) (.c (.n 1))⟩, ⟨[], [], .nop⟩] [some 0, none, some 2, some 3, some 4, some 10, none, none, none, none])))))))))
 ((.seq (.reg [⟨[], [], .nop⟩, ⟨[], [], .nop⟩] [none, some 4, none, none, none, none, none, none, none, none])
 (.ret))))))))))))))⟩

/-- loop.example/g03401/spec.UnrankPath -/
def ir_spec_UnrankPath : IF := ⟨[], 2, 12, [2, 3],
 (.seq (.reg [⟨[], [], .cs .v (.s [])⟩, ⟨[], [], .cs .v (.b false)⟩] [some 0, some 1, none, none, none, none, none, none, none, none, none, none])
 ((.seq ((.seq (.reg [⟨[], [], .nop⟩, ⟨[], [], .ca 22 [(.e 0), (.c (.n 0)), (.c (.n 8))] 1⟩, ⟨[], [], .un .not (.e 12)⟩, ⟨[], [], .nop⟩, ⟨[], [(13, false)], .cy (.e 1)⟩, ⟨[], [(13, false)], .bi .lss (.e 14) (.c (.n 0))⟩, ⟨[], [], .pk (.e 13) (.c (.b true)) (.e 15)⟩, ⟨[], [], .nop⟩, ⟨[], [(16, false)], .cy (.e 1)⟩, ⟨[], [(16, false)], .cy (.e 0)⟩, ⟨[], [(16, false)], .ca 79 [(.e 18)] 1⟩, ⟨[], [(16, false)], .bi .geq (.e 17) (.e 19)⟩, ⟨[], [], .pk (.e 16) (.c (.b true)) (.e 20)⟩] [some 0, some 1, none, none, none, none, none, none, some 21, none, none, none])
 (.cond 8 ((.seq (.reg [⟨[], [], .cs .v (.s [])⟩, ⟨[], [], .cs .v (.b false)⟩] [none, none, some 12, some 13, none, none, none, none, none, none, none, none])
  (.ret))) (.skip))))
 ((.seq (.reg [⟨[], [], .cs .v (.s [])⟩] [some 0, some 1, none, none, some 12, none, none, none, none, none, none, none])
 ((.seq (.reg [⟨[], [], .nop⟩, ⟨[], [], .nop⟩] [some 0, some 1, none, none, some 4, some 0, none, none, none, none, none, none])
 ((.seq (.reg [⟨[], [], .nop⟩, ⟨[], [], .nop⟩] [none, some 1, none, none, some 4, some 5, some 0, none, none, none, none, none])
 ((.seq (.block 0 (.loop ((.seq ((.seq (.reg [⟨[], [], .nop⟩, ⟨[], [], .bi .gtr (.e 6) (.c (.n 0))⟩] [none, some 1, none, none, some 4, some 5, some 6, none, none, some 12, none, none])
   (.cond 9 (.skip) (.exit 0))))
   (.block 1 ((.seq (.reg [⟨[], [], .cs .v (.n 0)⟩] [none, some 1, none, none, some 4, some 5, some 6, some 12, none, none, none, none])
    ((.seq ((.seq (.reg [⟨[], [], .nop⟩, ⟨[], [], .bi .gtr (.e 5) (.c (.n 0))⟩] [none, some 1, none, none, some 4, some 5, some 6, some 7, none, none, some 12, none])
    (.cond 10 (.reg [⟨[], [], .nop⟩, ⟨[], [], .bi .sub (.e 5) (.c (.n 1))⟩, ⟨[], [], .nop⟩, ⟨[], [], .ca 84 [(.e 12), (.e 6)] 1⟩, ⟨[], [], .nop⟩] [none, some 1, none, none, some 4, some 5, some 6, some 13, none, none, none, none]) (.skip))))
    ((.seq ((.seq (.reg [⟨[], [], .nop⟩, ⟨[], [], .nop⟩, ⟨[], [], .bi .lss (.e 1) (.e 7)⟩] [none, some 1, none, none, some 4, some 5, some 6, some 7, none, none, none, some 12])
    (.cond 11 ((.seq (.reg [⟨[], [], .nop⟩, ⟨[], [], .bi .add (.e 4) (.c (.s [117]))⟩, ⟨[], [], .nop⟩] [none, some 1, none, none, some 12, some 5, some 6, none, none, none, none, none])
     ((.seq (.reg [⟨[], [], .nop⟩, ⟨[], [], .bi .sub (.e 5) (.c (.n 1))⟩, ⟨[], [], .nop⟩] [none, some 1, none, none, some 4, some 12, some 6, none, none, none, none, none])
     (.exit 1))))) (.skip))))
    ((.seq (.reg [⟨[], [], .nop⟩, ⟨[], [], .nop⟩, ⟨[], [], .bi .sub (.e 1) (.e 7)⟩, ⟨[], [], .nop⟩] [none, some 12, none, none, some 4, some 5, some 6, none, none, none, none, none])
    ((.seq (.reg [⟨[], [], .nop⟩, ⟨[], [], .bi .add (.e 4) (.c (.s [100]))⟩, ⟨[], [], .nop⟩] [none, some 1, none, none, some 12, some 5, some 6, none, none, none, none, none])
    (.reg [⟨[], [], .nop⟩, ⟨[], [], .bi .sub (.e 6) (.c (.n 1))⟩, ⟨[], [], .nop⟩] [none, some 1, none, none, some 4, some 5, some 12, none, none, none, none, none]))))))))))))))))
 ((.seq (.reg [⟨[], [], .nop⟩, ⟨[], [], .nop⟩, ⟨[], [], .cs .v (.b true)⟩] [none, none, some 4, some 12, none, none, none, none, none, none, none, none])
 (.ret))))))))))))))⟩

/-- loop.example/g03401/spec.l3All -/
def ir_spec_l3All : IF := ⟨[], 3, 8, [3],
 (.seq (.reg [⟨[], [], .cs (.o .v) (.l [])⟩] [some 0, some 1, some 2, none, none, none, none, none])
 ((.seq ((.seq (.reg [⟨[], [], .nop⟩, ⟨[], [], .bi .eql (.e 2) (.c (.n 0))⟩] [some 0, some 1, some 2, none, none, some 8, none, none])
 (.cond 5 ((.seq (.reg [⟨[], [], .nop⟩, ⟨[], [], .li (.o .v) [(.e 0)]⟩, ⟨[], [], .nop⟩] [none, none, none, some 8, none, none, none, none])
  (.ret))) (.skip))))
 ((.seq (.reg [⟨[], [], .li (.o .v) []⟩, ⟨[], [], .nop⟩] [some 0, some 1, some 2, none, some 8, none, none, none])
 ((.seq ((.seq (.reg [⟨[], [], .nop⟩, ⟨[], [], .bi .gtr (.e 1) (.c (.n 0))⟩] [some 0, some 1, some 2, none, some 4, none, some 8, none])
 (.cond 6 (.reg [⟨[], [], .nop⟩, ⟨[], [], .nop⟩, ⟨[], [], .bi .add (.e 0) (.c (.s [117]))⟩, ⟨[], [], .nop⟩, ⟨[], [], .bi .sub (.e 1) (.c (.n 1))⟩, ⟨[], [], .nop⟩, ⟨[], [], .ca 292 [(.e 8), (.e 9), (.e 2)] 1⟩, ⟨[], [], .ap false (.e 4) (.e 10)⟩, ⟨[], [], .nop⟩] [some 0, some 1, some 2, none, some 11, none, none, none]) (.skip))))
 ((.seq ((.seq (.reg [⟨[], [], .nop⟩, ⟨[], [], .nop⟩, ⟨[], [], .bi .gtr (.e 2) (.e 1)⟩] [some 0, some 1, some 2, none, some 4, none, none, some 8])
 (.cond 7 (.reg [⟨[], [], .nop⟩, ⟨[], [], .nop⟩, ⟨[], [], .bi .add (.e 0) (.c (.s [100]))⟩, ⟨[], [], .nop⟩, ⟨[], [], .nop⟩, ⟨[], [], .bi .sub (.e 2) (.c (.n 1))⟩, ⟨[], [], .ca 292 [(.e 8), (.e 1), (.e 9)] 1⟩, ⟨[], [], .ap false (.e 4) (.e 10)⟩, ⟨[], [], .nop⟩] [none, none, none, none, some 11, none, none, none]) (.skip))))
 ((.seq (.reg [⟨[], [], .nop⟩, ⟨[], [], .nop⟩] [none, none, none, some 4, none, none, none, none])
 (.ret))))))))))))⟩

/-- loop.example/g03401/spec.l3Binomial -/
def ir_spec_l3Binomial : IF := ⟨[], 2, 6, [2],
 (.seq (.reg [⟨[], [], .cs .v (.n 0)⟩] [some 0, some 1, none, none, none, none])
 ((.seq (.reg [⟨[], [], .cs .v (.n 1)⟩] [some 0, some 1, none, some 6, none, none])
 ((.seq ((.seq (.reg [⟨[], [], .cs .v (.n 0)⟩] [some 0, some 1, none, some 3, some 6, none])
 (.block 0 (.loop ((.seq ((.seq (.reg [⟨[], [], .nop⟩, ⟨[], [], .nop⟩, ⟨[], [], .bi .lss (.e 4) (.e 1)⟩] [some 0, some 1, none, some 3, some 4, some 6])
   (.cond 5 (.skip) (.exit 0))))
   ((.seq (.block 1 (.reg [⟨[], [], .nop⟩, ⟨[], [], .nop⟩, ⟨[], [], .nop⟩, ⟨[], [], .bi .sub (.e 0) (.e 4)⟩, ⟨[], [], .bi .mul (.e 3) (.e 6)⟩, ⟨[], [], .nop⟩, ⟨[], [], .bi .add (.e 4) (.c (.n 1))⟩, ⟨[], [], .bi .quo (.e 7) (.e 8)⟩, ⟨[], [], .nop⟩] [some 0, some 1, none, some 9, some 4, none]))
   (.reg [⟨[], [], .nop⟩, ⟨[], [], .bi .add (.e 4) (.c (.n 1))⟩, ⟨[], [], .nop⟩] [some 0, some 1, none, some 3, some 6, none])))))))))
 ((.seq (.reg [⟨[], [], .nop⟩, ⟨[], [], .nop⟩] [none, none, some 3, none, none, none])
 (.ret))))))))⟩

/-- loop.example/g03401/spec.l3Ways -/
def ir_spec_l3Ways : IF := ⟨[], 2, 10, [2],
 (.seq (.reg [⟨[], [], .cs .v (.n 0)⟩] [some 0, some 1, none, none, none, none, none, none, none, none])
 ((.seq (.reg [⟨[], [], .li (.o (.o .v)) []⟩, ⟨[], [], .nop⟩] [some 0, some 1, none, some 10, none, none, none, none, none, none])
 ((.seq ((.seq (.reg [⟨[], [], .cs .v (.n 0)⟩] [some 0, some 1, none, some 3, some 10, none, none, none, none, none])
 (.block 0 (.loop ((.seq ((.seq (.reg [⟨[], [], .nop⟩, ⟨[], [], .nop⟩, ⟨[], [], .bi .leq (.e 4) (.e 0)⟩] [some 0, some 1, none, some 3, some 4, none, some 10, none, none, none])
   (.cond 6 (.skip) (.exit 0))))
   ((.seq (.block 1 ((.seq (.reg [⟨[], [], .nop⟩, ⟨[], [], .nop⟩, ⟨[], [], .bi .add (.e 1) (.c (.n 1))⟩, ⟨[], [], .mk (.n 0) (.e 10) (.e 10)⟩, ⟨[], [], .li (.o (.o .v)) [(.e 11)]⟩, ⟨[], [], .ap false (.e 3) (.e 12)⟩, ⟨[], [], .nop⟩] [some 0, some 1, none, some 13, some 4, none, none, none, none, none])
    ((.seq (.reg [⟨[], [], .nop⟩, ⟨[], [], .nop⟩] [some 0, some 1, none, some 3, some 4, some 4, none, none, none, none])
    (.block 2 (.loop ((.seq ((.seq (.reg [⟨[], [], .nop⟩, ⟨[], [], .nop⟩, ⟨[], [], .bi .leq (.e 5) (.e 1)⟩] [some 0, some 1, none, some 3, some 4, some 5, none, some 10, none, none])
      (.cond 7 (.skip) (.exit 2))))
      ((.seq (.block 3 (.block 4 ((.seq (.reg [⟨[], [], .nop⟩, ⟨[], [], .bi .eql (.e 4) (.c (.n 0))⟩, ⟨[], [], .nop⟩] [some 0, some 1, none, some 3, some 4, some 5, none, none, some 10, none])
        (.cond 8 (.reg [⟨[], [], .nop⟩, ⟨[], [], .nop⟩, ⟨[], [], .ix (.e 3) [] (.e 4)⟩, ⟨[], [], .nop⟩, ⟨[], [], .nop⟩, ⟨[], [], .ix (.e 3) [.e 4] (.e 5)⟩, ⟨[], [], .up 3 [.e 4, .e 5] (.c (.n 1))⟩] [some 0, some 1, none, some 12, some 4, some 5, none, none, none, none]) ((.seq (.reg [⟨[], [], .nop⟩, ⟨[], [], .nop⟩, ⟨[], [], .bi .eql (.e 5) (.e 4)⟩, ⟨[], [], .nop⟩] [some 0, some 1, none, some 3, some 4, some 5, none, none, none, some 10])
         (.cond 9 (.reg [⟨[], [], .nop⟩, ⟨[], [], .nop⟩, ⟨[], [], .ix (.e 3) [] (.e 4)⟩, ⟨[], [], .nop⟩, ⟨[], [], .nop⟩, ⟨[], [], .nop⟩, ⟨[], [], .nop⟩, ⟨[], [], .bi .sub (.e 4) (.c (.n 1))⟩, ⟨[], [], .ix (.e 3) [] (.e 11)⟩, ⟨[], [], .nop⟩, ⟨[], [], .nop⟩, ⟨[], [], .ix (.e 3) [.e 11] (.e 5)⟩, ⟨[], [], .nop⟩, ⟨[], [], .ix (.e 3) [.e 4] (.e 5)⟩, ⟨[], [], .up 3 [.e 4, .e 5] (.e 13)⟩] [some 0, some 1, none, some 15, some 4, some 5, none, none, none, none]) (.reg [⟨[], [], .nop⟩, ⟨[], [], .nop⟩, ⟨[], [], .ix (.e 3) [] (.e 4)⟩, ⟨[], [], .nop⟩, ⟨[], [], .nop⟩, ⟨[], [], .nop⟩, ⟨[], [], .nop⟩, ⟨[], [], .bi .sub (.e 4) (.c (.n 1))⟩, ⟨[], [], .ix (.e 3) [] (.e 11)⟩, ⟨[], [], .nop⟩, ⟨[], [], .nop⟩, ⟨[], [], .ix (.e 3) [.e 11] (.e 5)⟩, ⟨[], [], .nop⟩, ⟨[], [], .nop⟩, ⟨[], [], .nop⟩, ⟨[], [], .ix (.e 3) [] (.e 4)⟩, ⟨[], [], .nop⟩, ⟨[], [], .nop⟩, ⟨[], [], .bi .sub (.e 5) (.c (.n 1))⟩, ⟨[], [], .ix (.e 3) [.e 4] (.e 15)⟩, ⟨[], [], .nop⟩, ⟨[], [], .bi .add (.e 13) (.e 16)⟩, ⟨[], [], .ix (.e 3) [.e 4] (.e 5)⟩, ⟨[], [], .up 3 [.e 4, .e 5] (.e 17)⟩] [some 0, some 1, none, some 19, some 4, some 5, none, none, none, none])))))))))
      (.reg [⟨[], [], .nop⟩, ⟨[], [], .bi .add (.e 5) (.c (.n 1))⟩, ⟨[], [], .nop⟩] [some 0, some 1, none, some 3, some 4, some 10, none, none, none, none]))))))))))))
   (.reg [⟨[], [], .nop⟩, ⟨[], [], .bi .add (.e 4) (.c (.n 1))⟩, ⟨[], [], .nop⟩] [some 0, some 1, none, some 3, some 10, none, none, none, none, none])))))))))
 ((.seq (.reg [⟨[], [], .nop⟩, ⟨[], [], .nop⟩, ⟨[], [], .ix (.e 3) [] (.e 0)⟩, ⟨[], [], .nop⟩, ⟨[], [], .nop⟩, ⟨[], [], .ix (.e 3) [.e 0] (.e 1)⟩, ⟨[], [], .nop⟩, ⟨[], [], .nop⟩] [none, none, some 11, none, none, none, none, none, none, none])
 (.ret))))))))⟩

end Go.Cat

namespace Go.Cat
/-- loop.example/g03401/spec.BinomialTransform -/
def ir_spec_BinomialTransform : IF := ⟨[], 1, 10, [1, 2],
 (.seq (.reg [⟨[], [], .cs (.o .v) (.l [])⟩, ⟨[], [], .cs .v (.b false)⟩] [some 0, none, none, none, none, none, none, none, none, none])
 ((.seq ((.seq (.reg [⟨[], [], .nop⟩, ⟨[], [], .ca 68 [(.e 0)] 1⟩, ⟨[], [], .un .not (.e 10)⟩] [some 0, none, none, none, none, none, none, some 11, none, none])
 (.cond 7 ((.seq (.reg [⟨[], [], .li (.o .v) []⟩, ⟨[], [], .nop⟩, ⟨[], [], .cs .v (.b false)⟩] [none, some 10, some 11, none, none, none, none, none, none, none])
  (.ret))) (.skip))))
 ((.seq (.reg [⟨[], [], .li (.o .v) []⟩, ⟨[], [], .nop⟩] [some 0, none, none, some 10, none, none, none, none, none, none])
 ((.seq ((.seq (.reg [⟨[], [], .cs .v (.n 0)⟩] [some 0, none, none, some 3, some 10, none, none, none, none, none])
 (.block 0 (.loop ((.seq ((.seq (.reg [⟨[], [], .nop⟩, ⟨[], [], .nop⟩, ⟨[], [], .ln (.e 0) []⟩, ⟨[], [], .bi .lss (.e 4) (.e 10)⟩] [some 0, none, none, some 3, some 4, none, none, none, some 11, none])
   (.cond 8 (.skip) (.exit 0))))
   ((.seq (.block 1 ((.seq (.reg [⟨[], [], .cs .v (.n 0)⟩] [some 0, none, none, some 3, some 4, some 10, none, none, none, none])
    ((.seq ((.seq (.reg [⟨[], [], .cs .v (.n 0)⟩] [some 0, none, none, some 3, some 4, some 5, some 10, none, none, none])
    (.block 2 (.loop ((.seq ((.seq (.reg [⟨[], [], .nop⟩, ⟨[], [], .nop⟩, ⟨[], [], .bi .leq (.e 6) (.e 4)⟩] [some 0, none, none, some 3, some 4, some 5, some 6, none, none, some 10])
      (.cond 9 (.skip) (.exit 2))))
      ((.seq (.block 3 (.reg [⟨[], [], .nop⟩, ⟨[], [], .nop⟩, ⟨[], [], .nop⟩, ⟨[], [], .ca 24 [(.e 4), (.e 6)] 1⟩, ⟨[], [], .nop⟩, ⟨[], [], .nop⟩, ⟨[], [], .iy (.e 0) (.e 6)⟩, ⟨[], [], .nop⟩, ⟨[], [], .bi .mul (.e 10) (.e 11)⟩, ⟨[], [], .bi .add (.e 5) (.e 12)⟩, ⟨[], [], .nop⟩] [some 0, none, none, some 3, some 4, some 13, some 6, none, none, none]))
      (.reg [⟨[], [], .nop⟩, ⟨[], [], .bi .add (.e 6) (.c (.n 1))⟩, ⟨[], [], .nop⟩] [some 0, none, none, some 3, some 4, some 5, some 10, none, none, none])))))))))
    (.reg [⟨[], [], .nop⟩, ⟨[], [], .nop⟩, ⟨[], [], .li (.o .v) [(.e 5)]⟩, ⟨[], [], .ap false (.e 3) (.e 10)⟩, ⟨[], [], .nop⟩] [some 0, none, none, some 11, some 4, none, none, none, none, none]))))))
   (.reg [⟨[], [], .nop⟩, ⟨[], [], .bi .add (.e 4) (.c (.n 1))⟩, ⟨[], [], .nop⟩] [some 0, none, none, some 3, some 10, none, none, none, none, none])))))))))
 ((.seq (.reg [⟨[], [], .nop⟩, ⟨[], [], .nop⟩, ⟨[], [], .cs .v (.b true)⟩] [none, some 3, some 10, none, none, none, none, none, none, none])
 (.ret))))))))))⟩

/-- loop.example/g03401/spec.CatalanSeries -/
def ir_spec_CatalanSeries : IF := ⟨[], 1, 7, [1, 2],
 (.seq (.reg [⟨[], [], .cs (.o .v) (.l [])⟩, ⟨[], [], .cs .v (.b false)⟩] [some 0, none, none, none, none, none, none])
 ((.seq (.reg [⟨[], [], .li (.o .v) []⟩, ⟨[], [], .nop⟩] [some 0, none, none, some 7, none, none, none])
 ((.seq ((.seq (.reg [⟨[], [], .nop⟩, ⟨[], [], .ca 22 [(.e 0), (.c (.n 1)), (.c (.n 12))] 1⟩, ⟨[], [], .un .not (.e 7)⟩] [some 0, none, none, some 3, none, some 8, none])
 (.cond 5 ((.seq (.reg [⟨[], [], .nop⟩, ⟨[], [], .nop⟩, ⟨[], [], .cs .v (.b false)⟩] [none, some 3, some 7, none, none, none, none])
  (.ret))) (.skip))))
 ((.seq ((.seq (.reg [⟨[], [], .cs .v (.n 0)⟩] [some 0, none, none, some 3, some 7, none, none])
 (.block 0 (.loop ((.seq ((.seq (.reg [⟨[], [], .nop⟩, ⟨[], [], .nop⟩, ⟨[], [], .bi .lss (.e 4) (.e 0)⟩] [some 0, none, none, some 3, some 4, none, some 7])
   (.cond 6 (.skip) (.exit 0))))
   ((.seq (.block 1 (.reg [⟨[], [], .nop⟩, ⟨[], [], .nop⟩, ⟨[], [], .ca 79 [(.e 4)] 1⟩, ⟨[], [], .li (.o .v) [(.e 7)]⟩, ⟨[], [], .ap false (.e 3) (.e 8)⟩, ⟨[], [], .nop⟩] [some 0, none, none, some 9, some 4, none, none]))
   (.reg [⟨[], [], .nop⟩, ⟨[], [], .bi .add (.e 4) (.c (.n 1))⟩, ⟨[], [], .nop⟩] [some 0, none, none, some 3, some 7, none, none])))))))))
 ((.seq (.reg [⟨[], [], .nop⟩, ⟨[], [], .nop⟩, ⟨[], [], .cs .v (.b true)⟩] [none, some 3, some 7, none, none, none, none])
 (.ret))))))))))⟩

/-- loop.example/g03401/spec.DrawBinomialTransform -/
def ir_spec_DrawBinomialTransform : IF := ⟨[], 1, 2, [1],
 (.seq (.reg [⟨[], [], .cs (.o .v) (.l [])⟩] [some 0, none])
 ((.seq (.reg [⟨[], [], .nop⟩, ⟨[], [], .ca 288 [(.e 0)] 1⟩, ⟨[], [], .ca 308 [(.e 2)] 2⟩, ⟨[], [], .nop⟩] [none, some 3])
 (.ret))))⟩

/-- loop.example/g03401/spec.DrawCatalanSeries -/
def ir_spec_DrawCatalanSeries : IF := ⟨[], 1, 2, [1],
 (.seq (.reg [⟨[], [], .cs .v (.n 0)⟩] [some 0, none])
 ((.seq (.reg [⟨[], [], .nop⟩, ⟨[], [], .ca 288 [(.e 0)] 1⟩, ⟨[], [], .ca 289 [(.e 2), (.c (.n 15))] 2⟩, ⟨[], [], .bi .sub (.e 3) (.c (.n 1))⟩, ⟨[], [], .nop⟩] [none, some 5])
 (.ret))))⟩

/-- loop.example/g03401/spec.DrawHankelOf -/
def ir_spec_DrawHankelOf : IF := ⟨[], 1, 7, [1, 2, 3],
 (.seq (.reg [⟨[], [], .cs (.o .v) (.l [])⟩, ⟨[], [], .cs .v (.n 0)⟩, ⟨[], [], .cs .v (.n 0)⟩] [some 0, none, none, none, none, none, none])
 ((.seq (.reg [⟨[], [], .nop⟩, ⟨[], [], .ca 288 [(.e 0)] 1⟩, ⟨[], [], .nop⟩] [none, none, none, none, some 7, none, none])
 ((.seq (.reg [⟨[], [], .nop⟩, ⟨[], [], .ca 308 [(.e 4)] 2⟩, ⟨[], [], .nop⟩] [none, none, none, none, some 8, some 7, none])
 ((.seq (.reg [⟨[], [], .nop⟩, ⟨[], [], .ca 289 [(.e 4), (.c (.n 6))] 2⟩, ⟨[], [], .nop⟩] [none, none, none, none, some 8, some 5, some 7])
 ((.seq (.reg [⟨[], [], .nop⟩, ⟨[], [], .nop⟩, ⟨[], [], .nop⟩, ⟨[], [], .ca 289 [(.e 4), (.c (.n 4))] 2⟩, ⟨[], [], .bi .sub (.e 7) (.c (.n 1))⟩, ⟨[], [], .nop⟩, ⟨[], [], .nop⟩, ⟨[], [], .nop⟩] [none, some 5, some 6, some 9, none, none, none])
 (.ret))))))))))⟩

/-- loop.example/g03401/spec.DrawInverseSeries -/
def ir_spec_DrawInverseSeries : IF := ⟨[], 1, 2, [1],
 (.seq (.reg [⟨[], [], .cs (.o .v) (.l [])⟩] [some 0, none])
 ((.seq (.reg [⟨[], [], .nop⟩, ⟨[], [], .ca 288 [(.e 0)] 1⟩, ⟨[], [], .ca 308 [(.e 2)] 2⟩, ⟨[], [], .nop⟩] [none, some 3])
 (.ret))))⟩

/-- loop.example/g03401/spec.DrawMultiplySeries -/
def ir_spec_DrawMultiplySeries : IF := ⟨[], 1, 8, [1, 2],
 (.seq (.reg [⟨[], [], .cs (.o .v) (.l [])⟩, ⟨[], [], .cs (.o .v) (.l [])⟩] [some 0, none, none, none, none, none, none, none])
 ((.seq (.reg [⟨[], [], .nop⟩, ⟨[], [], .ca 288 [(.e 0)] 1⟩, ⟨[], [], .nop⟩] [none, none, none, some 8, none, none, none, none])
 ((.seq (.reg [⟨[], [], .nop⟩, ⟨[], [], .ca 308 [(.e 3)] 2⟩, ⟨[], [], .nop⟩] [none, none, none, some 9, some 8, none, none, none])
 ((.seq (.reg [⟨[], [], .nop⟩, ⟨[], [], .ca 308 [(.e 3)] 2⟩, ⟨[], [], .nop⟩] [none, none, none, some 9, some 4, some 8, none, none])
 ((.seq (.reg [⟨[], [], .nop⟩, ⟨[], [], .ln (.e 4) []⟩, ⟨[], [], .nop⟩, ⟨[], [], .ln (.e 5) []⟩, ⟨[], [], .mn (.e 8) (.e 9)⟩, ⟨[], [], .nop⟩] [none, none, none, some 3, some 4, some 5, some 10, none])
 ((.seq ((.seq (.reg [⟨[], [], .nop⟩, ⟨[], [], .ca 307 [(.e 3), (.c (.n 8))] 2⟩] [none, none, none, none, some 4, some 5, some 6, some 8])
 (.cond 7 ((.seq (.reg [⟨[], [], .nop⟩, ⟨[], [], .nop⟩, ⟨[], [], .nop⟩, ⟨[], [], .nop⟩] [none, some 4, some 5, none, none, none, none, none])
  (.ret))) (.skip))))
 ((.seq (.reg [⟨[], [], .nop⟩, ⟨[], [], .nop⟩, ⟨[], [], .sb true (.e 4) none (some (.e 6))⟩, ⟨[], [], .nop⟩, ⟨[], [], .nop⟩, ⟨[], [], .sb true (.e 5) none (some (.e 6))⟩, ⟨[], [], .nop⟩, ⟨[], [], .nop⟩] [none, some 8, some 9, none, none, none, none, none])
 (.ret))))))))))))))⟩

/-- loop.example/g03401/spec.DrawReversionOf -/
def ir_spec_DrawReversionOf : IF := ⟨[], 1, 2, [1],
 (.seq (.reg [⟨[], [], .cs (.o .v) (.l [])⟩] [some 0, none])
 ((.seq (.reg [⟨[], [], .nop⟩, ⟨[], [], .ca 288 [(.e 0)] 1⟩, ⟨[], [], .ca 308 [(.e 2)] 2⟩, ⟨[], [], .nop⟩] [none, some 3])
 (.ret))))⟩

/-- loop.example/g03401/spec.DrawSatisfiesCatalan -/
def ir_spec_DrawSatisfiesCatalan : IF := ⟨[], 1, 2, [1],
 (.seq (.reg [⟨[], [], .cs (.o .v) (.l [])⟩] [some 0, none])
 ((.seq (.reg [⟨[], [], .nop⟩, ⟨[], [], .ca 288 [(.e 0)] 1⟩, ⟨[], [], .ca 308 [(.e 2)] 2⟩, ⟨[], [], .nop⟩] [none, some 3])
 (.ret))))⟩

/-- loop.example/g03401/spec.HankelOf -/
def ir_spec_HankelOf : IF := ⟨[], 3, 14, [3, 4],
 (.seq (.reg [⟨[], [], .cs .v (.n 0)⟩, ⟨[], [], .cs .v (.b false)⟩] [some 0, some 1, some 2, none, none, none, none, none, none, none, none, none, none, none])
 ((.seq ((.seq (.reg [⟨[], [], .nop⟩, ⟨[], [], .ca 68 [(.e 0)] 1⟩, ⟨[], [], .un .not (.e 14)⟩, ⟨[], [], .nop⟩, ⟨[], [(15, false)], .cy (.e 1)⟩, ⟨[], [(15, false)], .ca 22 [(.e 16), (.c (.n 0)), (.c (.n 4))] 1⟩, ⟨[], [(15, false)], .un .not (.e 17)⟩, ⟨[], [], .pk (.e 15) (.c (.b true)) (.e 18)⟩, ⟨[], [], .nop⟩, ⟨[], [(19, false)], .cy (.e 2)⟩, ⟨[], [(19, false)], .ca 22 [(.e 20), (.c (.n 0)), (.c (.n 2))] 1⟩, ⟨[], [(19, false)], .un .not (.e 21)⟩, ⟨[], [], .pk (.e 19) (.c (.b true)) (.e 22)⟩, ⟨[], [], .nop⟩, ⟨[], [(23, false)], .cy (.e 1)⟩, ⟨[], [(23, false)], .bi .gtr (.e 24) (.c (.n 0))⟩, ⟨[], [(23, false)], .cy (.e 25)⟩, ⟨[], [(23, false), (26, true)], .cy (.e 1)⟩, ⟨[], [(23, false), (26, true)], .bi .sub (.e 27) (.c (.n 1))⟩, ⟨[], [(23, false), (26, true)], .bi .mul (.c (.n 2)) (.e 28)⟩, ⟨[], [(23, false), (26, true)], .cy (.e 2)⟩, ⟨[], [(23, false), (26, true)], .bi .add (.e 29) (.e 30)⟩, ⟨[], [(23, false), (26, true)], .nop⟩, ⟨[], [(23, false), (26, true)], .ln (.e 0) []⟩, ⟨[], [(23, false), (26, true)], .bi .geq (.e 31) (.e 32)⟩, ⟨[], [(23, false)], .pk (.e 26) (.e 33) (.c (.b false))⟩, ⟨[], [], .pk (.e 23) (.c (.b true)) (.e 34)⟩] [some 0, some 1, some 2, none, none, none, none, none, none, none, some 35, none, none, none])
 (.cond 10 ((.seq (.reg [⟨[], [], .cs .v (.n 0)⟩, ⟨[], [], .cs .v (.b false)⟩] [none, none, none, some 14, some 15, none, none, none, none, none, none, none, none, none])
  (.ret))) (.skip))))
 ((.seq (.reg [⟨[], [], .li (.o .v) []⟩, ⟨[], [], .nop⟩] [some 0, some 1, some 2, none, none, some 14, none, none, none, none, none, none, none, none])
 ((.seq ((.seq (.reg [⟨[], [], .cs .v (.n 0)⟩] [some 0, some 1, some 2, none, none, some 5, some 14, none, none, none, none, none, none, none])
 (.block 0 (.loop ((.seq ((.seq (.reg [⟨[], [], .nop⟩, ⟨[], [], .nop⟩, ⟨[], [], .bi .lss (.e 6) (.e 1)⟩] [some 0, some 1, some 2, none, none, some 5, some 6, none, none, none, none, some 14, none, none])
   (.cond 11 (.skip) (.exit 0))))
   ((.seq (.block 1 ((.seq (.reg [⟨[], [], .li (.o .v) []⟩, ⟨[], [], .nop⟩] [some 0, some 1, some 2, none, none, some 5, some 6, some 14, none, none, none, none, none, none])
    ((.seq ((.seq (.reg [⟨[], [], .cs .v (.n 0)⟩] [some 0, some 1, some 2, none, none, some 5, some 6, some 7, some 14, none, none, none, none, none])
    (.block 2 (.loop ((.seq ((.seq (.reg [⟨[], [], .nop⟩, ⟨[], [], .nop⟩, ⟨[], [], .bi .lss (.e 8) (.e 1)⟩] [some 0, some 1, some 2, none, none, some 5, some 6, some 7, some 8, none, none, none, some 14, none])
      (.cond 12 (.skip) (.exit 2))))
      ((.seq (.block 3 ((.seq (.reg [⟨[], [], .nop⟩, ⟨[], [], .nop⟩, ⟨[], [], .nop⟩, ⟨[], [], .bi .add (.e 6) (.e 8)⟩, ⟨[], [], .nop⟩, ⟨[], [], .bi .add (.e 14) (.e 2)⟩, ⟨[], [], .iy (.e 0) (.e 15)⟩, ⟨[], [], .nop⟩, ⟨[], [], .nop⟩] [some 0, some 1, some 2, none, none, some 5, some 6, some 7, some 8, some 16, none, none, none, none])
       ((.seq ((.seq (.reg [⟨[], [], .nop⟩, ⟨[], [], .ca 22 [(.e 9), (.c (.n (-1000))), (.c (.n 1000))] 1⟩, ⟨[], [], .un .not (.e 14)⟩] [some 0, some 1, some 2, none, none, some 5, some 6, some 7, some 8, some 9, none, none, none, some 15])
       (.cond 13 ((.seq (.reg [⟨[], [], .cs .v (.n 0)⟩, ⟨[], [], .cs .v (.b false)⟩] [none, none, none, some 14, some 15, none, none, none, none, none, none, none, none, none])
        (.ret))) (.skip))))
       (.reg [⟨[], [], .nop⟩, ⟨[], [], .nop⟩, ⟨[], [], .li (.o .v) [(.e 9)]⟩, ⟨[], [], .ap false (.e 7) (.e 14)⟩, ⟨[], [], .nop⟩] [some 0, some 1, some 2, none, none, some 5, some 6, some 15, some 8, none, none, none, none, none]))))))
      (.reg [⟨[], [], .nop⟩, ⟨[], [], .bi .add (.e 8) (.c (.n 1))⟩, ⟨[], [], .nop⟩] [some 0, some 1, some 2, none, none, some 5, some 6, some 7, some 14, none, none, none, none, none])))))))))
    (.reg [⟨[], [], .nop⟩, ⟨[], [], .nop⟩, ⟨[], [], .li (.o .v) [(.e 7)]⟩, ⟨[], [], .ap false (.e 5) (.e 14)⟩, ⟨[], [], .nop⟩] [some 0, some 1, some 2, none, none, some 15, some 6, none, none, none, none, none, none, none]))))))
   (.reg [⟨[], [], .nop⟩, ⟨[], [], .bi .add (.e 6) (.c (.n 1))⟩, ⟨[], [], .nop⟩] [some 0, some 1, some 2, none, none, some 5, some 14, none, none, none, none, none, none, none])))))))))
 ((.seq (.reg [⟨[], [], .nop⟩, ⟨[], [], .ca 126 [(.e 5)] 1⟩, ⟨[], [], .nop⟩, ⟨[], [], .cs .v (.b true)⟩] [none, none, none, some 14, some 15, none, none, none, none, none, none, none, none, none])
 (.ret))))))))))⟩

/-- loop.example/g03401/spec.InverseSeries -/
def ir_spec_InverseSeries : IF := ⟨[], 1, 13, [1, 2],
 (.seq (.reg [⟨[], [], .cs (.o .v) (.l [])⟩, ⟨[], [], .cs .v (.b false)⟩] [some 0, none, none, none, none, none, none, none, none, none, none, none, none])
 ((.seq ((.seq (.reg [⟨[], [], .nop⟩, ⟨[], [], .ca 68 [(.e 0)] 1⟩, ⟨[], [], .un .not (.e 13)⟩, ⟨[], [], .nop⟩, ⟨[], [(14, false)], .nop⟩, ⟨[], [(14, false)], .iy (.e 0) (.c (.n 0))⟩, ⟨[], [(14, false)], .nop⟩, ⟨[], [(14, false)], .bi .neq (.e 15) (.c (.n 1))⟩, ⟨[], [(14, false)], .cy (.e 16)⟩, ⟨[], [(14, false), (17, true)], .nop⟩, ⟨[], [(14, false), (17, true)], .iy (.e 0) (.c (.n 0))⟩, ⟨[], [(14, false), (17, true)], .nop⟩, ⟨[], [(14, false), (17, true)], .bi .neq (.e 18) (.c (.n (-1)))⟩, ⟨[], [(14, false)], .pk (.e 17) (.e 19) (.c (.b false))⟩, ⟨[], [], .pk (.e 14) (.c (.b true)) (.e 20)⟩] [some 0, none, none, none, none, none, none, none, some 21, none, none, none, none])
 (.cond 8 ((.seq (.reg [⟨[], [], .li (.o .v) []⟩, ⟨[], [], .nop⟩, ⟨[], [], .cs .v (.b false)⟩] [none, some 13, some 14, none, none, none, none, none, none, none, none, none, none])
  (.ret))) (.skip))))
 ((.seq ((.seq (.reg [⟨[], [], .cs .v (.n 0)⟩] [some 0, none, none, some 13, none, none, none, none, none, none, none, none, none])
 (.block 0 (.loop ((.seq ((.seq (.reg [⟨[], [], .nop⟩, ⟨[], [], .nop⟩, ⟨[], [], .ln (.e 0) []⟩, ⟨[], [], .bi .lss (.e 3) (.e 13)⟩] [some 0, none, none, some 3, none, none, none, none, none, some 14, none, none, none])
   (.cond 9 (.skip) (.exit 0))))
   ((.seq (.block 1 ((.seq (.reg [⟨[], [], .nop⟩, ⟨[], [], .nop⟩, ⟨[], [], .iy (.e 0) (.e 3)⟩, ⟨[], [], .nop⟩, ⟨[], [], .ca 22 [(.e 13), (.c (.n (-10))), (.c (.n 10))] 1⟩, ⟨[], [], .un .not (.e 14)⟩] [some 0, none, none, some 3, none, none, none, none, none, none, some 15, none, none])
    (.cond 10 ((.seq (.reg [⟨[], [], .li (.o .v) []⟩, ⟨[], [], .nop⟩, ⟨[], [], .cs .v (.b false)⟩] [none, some 13, some 14, none, none, none, none, none, none, none, none, none, none])
     (.ret))) (.skip)))))
   (.reg [⟨[], [], .nop⟩, ⟨[], [], .bi .add (.e 3) (.c (.n 1))⟩, ⟨[], [], .nop⟩] [some 0, none, none, some 13, none, none, none, none, none, none, none, none, none])))))))))
 ((.seq (.reg [⟨[], [], .nop⟩, ⟨[], [], .iy (.e 0) (.c (.n 0))⟩, ⟨[], [], .nop⟩, ⟨[], [], .li (.o .v) [(.e 13)]⟩, ⟨[], [], .nop⟩] [some 0, none, none, none, some 14, none, none, none, none, none, none, none, none])
 ((.seq ((.seq (.reg [⟨[], [], .cs .v (.n 1)⟩] [some 0, none, none, none, some 4, some 13, none, none, none, none, none, none, none])
 (.block 2 (.loop ((.seq ((.seq (.reg [⟨[], [], .nop⟩, ⟨[], [], .nop⟩, ⟨[], [], .ln (.e 0) []⟩, ⟨[], [], .bi .lss (.e 5) (.e 13)⟩] [some 0, none, none, none, some 4, some 5, none, none, none, none, none, some 14, none])
   (.cond 11 (.skip) (.exit 2))))
   ((.seq (.block 3 ((.seq (.reg [⟨[], [], .cs .v (.n 0)⟩] [some 0, none, none, none, some 4, some 5, some 13, none, none, none, none, none, none])
    ((.seq ((.seq (.reg [⟨[], [], .cs .v (.n 1)⟩] [some 0, none, none, none, some 4, some 5, some 6, some 13, none, none, none, none, none])
    (.block 4 (.loop ((.seq ((.seq (.reg [⟨[], [], .nop⟩, ⟨[], [], .nop⟩, ⟨[], [], .bi .leq (.e 7) (.e 5)⟩] [some 0, none, none, none, some 4, some 5, some 6, some 7, none, none, none, none, some 13])
      (.cond 12 (.skip) (.exit 4))))
      ((.seq (.block 5 (.reg [⟨[], [], .nop⟩, ⟨[], [], .nop⟩, ⟨[], [], .nop⟩, ⟨[], [], .iy (.e 0) (.e 7)⟩, ⟨[], [], .nop⟩, ⟨[], [], .nop⟩, ⟨[], [], .nop⟩, ⟨[], [], .nop⟩, ⟨[], [], .bi .sub (.e 5) (.e 7)⟩, ⟨[], [], .ix (.e 4) [] (.e 14)⟩, ⟨[], [], .nop⟩, ⟨[], [], .bi .mul (.e 13) (.e 15)⟩, ⟨[], [], .bi .add (.e 6) (.e 16)⟩, ⟨[], [], .nop⟩] [some 0, none, none, none, some 4, some 5, some 17, some 7, none, none, none, none, none]))
      (.reg [⟨[], [], .nop⟩, ⟨[], [], .bi .add (.e 7) (.c (.n 1))⟩, ⟨[], [], .nop⟩] [some 0, none, none, none, some 4, some 5, some 6, some 13, none, none, none, none, none])))))))))
    (.reg [⟨[], [], .nop⟩, ⟨[], [], .nop⟩, ⟨[], [], .iy (.e 0) (.c (.n 0))⟩, ⟨[], [], .nop⟩, ⟨[], [], .un .neg (.e 13)⟩, ⟨[], [], .nop⟩, ⟨[], [], .bi .mul (.e 14) (.e 6)⟩, ⟨[], [], .li (.o .v) [(.e 15)]⟩, ⟨[], [], .ap false (.e 4) (.e 16)⟩, ⟨[], [], .nop⟩] [some 0, none, none, none, some 17, some 5, none, none, none, none, none, none, none]))))))
   (.reg [⟨[], [], .nop⟩, ⟨[], [], .bi .add (.e 5) (.c (.n 1))⟩, ⟨[], [], .nop⟩] [some 0, none, none, none, some 4, some 13, none, none, none, none, none, none, none])))))))))
 ((.seq (.reg [⟨[], [], .nop⟩, ⟨[], [], .nop⟩, ⟨[], [], .cs .v (.b true)⟩] [none, some 4, some 13, none, none, none, none, none, none, none, none, none, none])
 (.ret))))))))))))⟩

/-- loop.example/g03401/spec.MultiplySeries -/
def ir_spec_MultiplySeries : IF := ⟨[], 2, 5, [2, 3],
 (.seq (.reg [⟨[], [], .cs (.o .v) (.l [])⟩, ⟨[], [], .cs .v (.b false)⟩] [some 0, some 1, none, none, none])
 ((.seq ((.seq (.reg [⟨[], [], .nop⟩, ⟨[], [], .ca 68 [(.e 0)] 1⟩, ⟨[], [], .un .not (.e 5)⟩, ⟨[], [], .nop⟩, ⟨[], [(6, false)], .nop⟩, ⟨[], [(6, false)], .ca 68 [(.e 1)] 1⟩, ⟨[], [(6, false)], .un .not (.e 7)⟩, ⟨[], [], .pk (.e 6) (.c (.b true)) (.e 8)⟩, ⟨[], [], .nop⟩, ⟨[], [(9, false)], .nop⟩, ⟨[], [(9, false)], .ln (.e 0) []⟩, ⟨[], [(9, false)], .nop⟩, ⟨[], [(9, false)], .ln (.e 1) []⟩, ⟨[], [(9, false)], .bi .neq (.e 10) (.e 11)⟩, ⟨[], [], .pk (.e 9) (.c (.b true)) (.e 12)⟩] [some 0, some 1, none, none, some 13])
 (.cond 4 ((.seq (.reg [⟨[], [], .li (.o .v) []⟩, ⟨[], [], .nop⟩, ⟨[], [], .cs .v (.b false)⟩] [none, none, some 5, some 6, none])
  (.ret))) (.skip))))
 ((.seq (.reg [⟨[], [], .nop⟩, ⟨[], [], .nop⟩, ⟨[], [], .ca 69 [(.e 0), (.e 1)] 1⟩, ⟨[], [], .nop⟩, ⟨[], [], .cs .v (.b true)⟩] [none, none, some 5, some 6, none])
 (.ret))))))⟩

/-- loop.example/g03401/spec.ReversionOf -/
def ir_spec_ReversionOf : IF := ⟨[], 1, 15, [1, 2],
 (.seq (.reg [⟨[], [], .cs (.o .v) (.l [])⟩, ⟨[], [], .cs .v (.b false)⟩] [some 0, none, none, none, none, none, none, none, none, none, none, none, none, none, none])
 ((.seq ((.seq (.reg [⟨[], [], .nop⟩, ⟨[], [], .ca 68 [(.e 0)] 1⟩, ⟨[], [], .un .not (.e 15)⟩, ⟨[], [], .nop⟩, ⟨[], [(16, false)], .nop⟩, ⟨[], [(16, false)], .ln (.e 0) []⟩, ⟨[], [(16, false)], .bi .lss (.e 17) (.c (.n 2))⟩, ⟨[], [], .pk (.e 16) (.c (.b true)) (.e 18)⟩, ⟨[], [], .nop⟩, ⟨[], [(19, false)], .nop⟩, ⟨[], [(19, false)], .ln (.e 0) []⟩, ⟨[], [(19, false)], .bi .gtr (.e 20) (.c (.n 8))⟩, ⟨[], [], .pk (.e 19) (.c (.b true)) (.e 21)⟩, ⟨[], [], .nop⟩, ⟨[], [(22, false)], .nop⟩, ⟨[], [(22, false)], .iy (.e 0) (.c (.n 0))⟩, ⟨[], [(22, false)], .nop⟩, ⟨[], [(22, false)], .bi .neq (.e 23) (.c (.n 0))⟩, ⟨[], [], .pk (.e 22) (.c (.b true)) (.e 24)⟩, ⟨[], [], .nop⟩, ⟨[], [(25, false)], .nop⟩, ⟨[], [(25, false)], .iy (.e 0) (.c (.n 1))⟩, ⟨[], [(25, false)], .nop⟩, ⟨[], [(25, false)], .bi .neq (.e 26) (.c (.n 1))⟩, ⟨[], [], .pk (.e 25) (.c (.b true)) (.e 27)⟩] [some 0, none, none, none, none, none, none, none, none, none, some 28, none, none, none, none])
 (.cond 10 ((.seq (.reg [⟨[], [], .li (.o .v) []⟩, ⟨[], [], .nop⟩, ⟨[], [], .cs .v (.b false)⟩] [none, some 15, some 16, none, none, none, none, none, none, none, none, none, none, none, none])
  (.ret))) (.skip))))
 ((.seq ((.seq (.reg [⟨[], [], .cs .v (.n 0)⟩] [some 0, none, none, some 15, none, none, none, none, none, none, none, none, none, none, none])
 (.block 0 (.loop ((.seq ((.seq (.reg [⟨[], [], .nop⟩, ⟨[], [], .nop⟩, ⟨[], [], .ln (.e 0) []⟩, ⟨[], [], .bi .lss (.e 3) (.e 15)⟩] [some 0, none, none, some 3, none, none, none, none, none, none, none, some 16, none, none, none])
   (.cond 11 (.skip) (.exit 0))))
   ((.seq (.block 1 ((.seq (.reg [⟨[], [], .nop⟩, ⟨[], [], .nop⟩, ⟨[], [], .iy (.e 0) (.e 3)⟩, ⟨[], [], .nop⟩, ⟨[], [], .ca 22 [(.e 15), (.c (.n (-3))), (.c (.n 3))] 1⟩, ⟨[], [], .un .not (.e 16)⟩] [some 0, none, none, some 3, none, none, none, none, none, none, none, none, some 17, none, none])
    (.cond 12 ((.seq (.reg [⟨[], [], .li (.o .v) []⟩, ⟨[], [], .nop⟩, ⟨[], [], .cs .v (.b false)⟩] [none, some 15, some 16, none, none, none, none, none, none, none, none, none, none, none, none])
     (.ret))) (.skip)))))
   (.reg [⟨[], [], .nop⟩, ⟨[], [], .bi .add (.e 3) (.c (.n 1))⟩, ⟨[], [], .nop⟩] [some 0, none, none, some 15, none, none, none, none, none, none, none, none, none, none, none])))))))))
 ((.seq (.reg [⟨[], [], .nop⟩, ⟨[], [], .ln (.e 0) []⟩, ⟨[], [], .nop⟩] [some 0, none, none, none, some 15, none, none, none, none, none, none, none, none, none, none])
 ((.seq (.reg [⟨[], [], .nop⟩, ⟨[], [], .mk (.n 0) (.e 4) (.e 4)⟩, ⟨[], [], .nop⟩] [some 0, none, none, none, some 4, some 15, none, none, none, none, none, none, none, none, none])
 ((.seq (.reg [⟨[], [], .nop⟩, ⟨[], [], .ix (.e 5) [] (.c (.n 1))⟩, ⟨[], [], .up 5 [.k 1] (.c (.n 1))⟩] [some 0, none, none, none, some 4, some 16, none, none, none, none, none, none, none, none, none])
 ((.seq ((.seq (.reg [⟨[], [], .cs .v (.n 2)⟩] [some 0, none, none, none, some 4, some 5, some 15, none, none, none, none, none, none, none, none])
 (.block 2 (.loop ((.seq ((.seq (.reg [⟨[], [], .nop⟩, ⟨[], [], .nop⟩, ⟨[], [], .bi .lss (.e 6) (.e 4)⟩] [some 0, none, none, none, some 4, some 5, some 6, none, none, none, none, none, none, some 15, none])
   (.cond 13 (.skip) (.exit 2))))
   ((.seq (.block 3 ((.seq (.reg [⟨[], [], .cs .v (.n 0)⟩] [some 0, none, none, none, some 4, some 5, some 6, some 15, none, none, none, none, none, none, none])
    ((.seq (.reg [⟨[], [], .li (.o .v) []⟩, ⟨[], [], .nop⟩, ⟨[], [], .ap false (.e 15) (.e 5)⟩, ⟨[], [], .nop⟩] [some 0, none, none, none, some 4, some 5, some 6, some 7, some 16, none, none, none, none, none, none])
    ((.seq ((.seq (.reg [⟨[], [], .cs .v (.n 2)⟩] [some 0, none, none, none, some 4, some 5, some 6, some 7, some 8, some 15, none, none, none, none, none])
    (.block 4 (.loop ((.seq ((.seq (.reg [⟨[], [], .nop⟩, ⟨[], [], .nop⟩, ⟨[], [], .bi .leq (.e 9) (.e 6)⟩] [some 0, none, none, none, some 4, some 5, some 6, some 7, some 8, some 9, none, none, none, none, some 15])
      (.cond 14 (.skip) (.exit 4))))
      ((.seq (.block 5 ((.seq (.reg [⟨[], [], .nop⟩, ⟨[], [], .nop⟩, ⟨[], [], .ca 69 [(.e 8), (.e 5)] 1⟩, ⟨[], [], .nop⟩] [some 0, none, none, none, some 4, some 5, some 6, some 7, some 15, some 9, none, none, none, none, none])
       (.reg [⟨[], [], .nop⟩, ⟨[], [], .nop⟩, ⟨[], [], .nop⟩, ⟨[], [], .iy (.e 0) (.e 9)⟩, ⟨[], [], .nop⟩, ⟨[], [], .nop⟩, ⟨[], [], .nop⟩, ⟨[], [], .ix (.e 8) [] (.e 6)⟩, ⟨[], [], .nop⟩, ⟨[], [], .bi .mul (.e 15) (.e 16)⟩, ⟨[], [], .bi .add (.e 7) (.e 17)⟩, ⟨[], [], .nop⟩] [some 0, none, none, none, some 4, some 5, some 6, some 18, some 8, some 9, none, none, none, none, none]))))
      (.reg [⟨[], [], .nop⟩, ⟨[], [], .bi .add (.e 9) (.c (.n 1))⟩, ⟨[], [], .nop⟩] [some 0, none, none, none, some 4, some 5, some 6, some 7, some 8, some 15, none, none, none, none, none])))))))))
    (.reg [⟨[], [], .nop⟩, ⟨[], [], .nop⟩, ⟨[], [], .nop⟩, ⟨[], [], .un .neg (.e 7)⟩, ⟨[], [], .ix (.e 5) [] (.e 6)⟩, ⟨[], [], .up 5 [.e 6] (.e 15)⟩] [some 0, none, none, none, some 4, some 17, some 6, none, none, none, none, none, none, none, none]))))))))
   (.reg [⟨[], [], .nop⟩, ⟨[], [], .bi .add (.e 6) (.c (.n 1))⟩, ⟨[], [], .nop⟩] [some 0, none, none, none, some 4, some 5, some 15, none, none, none, none, none, none, none, none])))))))))
 ((.seq (.reg [⟨[], [], .nop⟩, ⟨[], [], .nop⟩, ⟨[], [], .cs .v (.b true)⟩] [none, some 5, some 15, none, none, none, none, none, none, none, none, none, none, none, none])
 (.ret))))))))))))))))⟩

/-- loop.example/g03401/spec.SatisfiesCatalan -/
def ir_spec_SatisfiesCatalan : IF := ⟨[], 1, 7, [1],
 (.seq (.reg [⟨[], [], .cs .v (.b false)⟩] [some 0, none, none, none, none, none, none])
 ((.seq ((.seq (.reg [⟨[], [], .nop⟩, ⟨[], [], .ca 68 [(.e 0)] 1⟩, ⟨[], [], .un .not (.e 7)⟩, ⟨[], [], .nop⟩, ⟨[], [(8, false)], .nop⟩, ⟨[], [(8, false)], .iy (.e 0) (.c (.n 0))⟩, ⟨[], [(8, false)], .nop⟩, ⟨[], [(8, false)], .bi .neq (.e 9) (.c (.n 1))⟩, ⟨[], [], .pk (.e 8) (.c (.b true)) (.e 10)⟩] [some 0, none, none, none, some 11, none, none])
 (.cond 4 ((.seq (.reg [⟨[], [], .cs .v (.b false)⟩] [none, some 7, none, none, none, none, none])
  (.ret))) (.skip))))
 ((.seq (.reg [⟨[], [], .nop⟩, ⟨[], [], .nop⟩, ⟨[], [], .ca 69 [(.e 0), (.e 0)] 1⟩, ⟨[], [], .nop⟩] [some 0, none, some 7, none, none, none, none])
 ((.seq ((.seq (.reg [⟨[], [], .cs .v (.n 1)⟩] [some 0, none, some 2, some 7, none, none, none])
 (.block 0 (.loop ((.seq ((.seq (.reg [⟨[], [], .nop⟩, ⟨[], [], .nop⟩, ⟨[], [], .ln (.e 0) []⟩, ⟨[], [], .bi .lss (.e 3) (.e 7)⟩] [some 0, none, some 2, some 3, none, some 8, none])
   (.cond 5 (.skip) (.exit 0))))
   ((.seq (.block 1 ((.seq (.reg [⟨[], [], .nop⟩, ⟨[], [], .nop⟩, ⟨[], [], .iy (.e 0) (.e 3)⟩, ⟨[], [], .nop⟩, ⟨[], [], .nop⟩, ⟨[], [], .nop⟩, ⟨[], [], .bi .sub (.e 3) (.c (.n 1))⟩, ⟨[], [], .ix (.e 2) [] (.e 8)⟩, ⟨[], [], .nop⟩, ⟨[], [], .bi .neq (.e 7) (.e 9)⟩] [some 0, none, some 2, some 3, none, none, some 10])
    (.cond 6 ((.seq (.reg [⟨[], [], .cs .v (.b false)⟩] [none, some 7, none, none, none, none, none])
     (.ret))) (.skip)))))
   (.reg [⟨[], [], .nop⟩, ⟨[], [], .bi .add (.e 3) (.c (.n 1))⟩, ⟨[], [], .nop⟩] [some 0, none, some 2, some 7, none, none, none])))))))))
 ((.seq (.reg [⟨[], [], .cs .v (.b true)⟩] [none, some 7, none, none, none, none, none])
 (.ret))))))))))⟩

/-- loop.example/g03401/spec.l30Any -/
def ir_spec_l30Any : IF := ⟨[], 1, 11, [1, 0],
 (.seq (.reg [⟨[], [], .cs (.o .v) (.l [])⟩] [some 0, none, none, none, none, none, none, none, none, none, none])
 ((.seq ((.seq (.reg [⟨[], [], .nop⟩, ⟨[], [], .ca 289 [(.e 0), (.c (.n 6))] 2⟩] [some 12, none, none, none, none, some 11, none, none, none, none, none])
 (.block 0 ((.seq (.reg [⟨[], [], .bi .eql (.e 5) (.c (.n 0))⟩, ⟨[], [], .nop⟩] [some 0, none, none, none, none, some 5, some 11, none, none, none, none])
  (.cond 6 ((.seq (.reg [⟨[], [], .nop⟩, ⟨[], [], .ca 289 [(.e 0), (.c (.n 8))] 2⟩, ⟨[], [], .bi .add (.c (.n 1)) (.e 11)⟩, ⟨[], [], .ca 59 [(.e 13)] 2⟩, ⟨[], [], .nop⟩, ⟨[], [], .nop⟩, ⟨[], [], .nop⟩, ⟨[], [], .nop⟩, ⟨[], [], .nop⟩] [some 12, none, some 14, none, none, none, none, none, none, none, none])
   ((.seq (.reg [⟨[], [], .nop⟩, ⟨[], [], .nop⟩] [some 0, some 2, none, none, none, none, none, none, none, none, none])
   (.ret))))) ((.seq (.reg [⟨[], [], .bi .eql (.e 5) (.c (.n 1))⟩, ⟨[], [], .nop⟩] [some 0, none, none, none, none, none, none, some 11, none, none, none])
   (.cond 7 ((.seq (.reg [⟨[], [], .li (.o .v) [(.c (.n 0)), (.c (.n 1)), (.c (.n (-1))), (.c (.n 0)), (.c (.n 0)), (.c (.n 0)), (.c (.n 0))]⟩, ⟨[], [], .nop⟩] [some 0, some 11, none, none, none, none, none, none, none, none, none])
    (.ret))) (.skip))))))))))
 ((.seq (.reg [⟨[], [], .nop⟩, ⟨[], [], .li (.o .v) [(.c (.n 1)), (.c (.n 1)), (.c (.n 0)), (.c (.n (-1)))]⟩, ⟨[], [], .ca 313 [(.e 0), (.e 11)] 2⟩, ⟨[], [], .li (.o .v) [(.e 12)]⟩, ⟨[], [], .nop⟩] [some 13, none, none, some 14, none, none, none, none, none, none, none])
 ((.seq ((.seq (.reg [⟨[], [], .nop⟩, ⟨[], [], .ca 289 [(.e 0), (.c (.n 6))] 2⟩, ⟨[], [], .nop⟩] [some 12, none, none, some 3, some 11, none, none, none, none, none, none])
 (.block 1 (.loop ((.seq ((.seq (.reg [⟨[], [], .nop⟩, ⟨[], [], .bi .gtr (.e 4) (.c (.n 0))⟩] [some 0, none, none, some 3, some 4, none, none, none, some 11, none, none])
   (.cond 8 (.skip) (.exit 1))))
   ((.seq (.block 2 (.reg [⟨[], [], .nop⟩, ⟨[], [], .nop⟩, ⟨[], [], .ca 289 [(.e 0), (.c (.n 5))] 2⟩, ⟨[], [], .bi .sub (.e 11) (.c (.n 2))⟩, ⟨[], [], .li (.o .v) [(.e 13)]⟩, ⟨[], [], .ap false (.e 3) (.e 14)⟩, ⟨[], [], .nop⟩] [some 12, none, none, some 15, some 4, none, none, none, none, none, none]))
   (.reg [⟨[], [], .nop⟩, ⟨[], [], .bi .sub (.e 4) (.c (.n 1))⟩, ⟨[], [], .nop⟩] [some 0, none, none, some 3, some 11, none, none, none, none, none, none])))))))))
 ((.seq ((.seq (.reg [⟨[], [], .nop⟩, ⟨[], [], .ln (.e 3) []⟩, ⟨[], [], .bi .gtr (.e 11) (.c (.n 1))⟩, ⟨[], [], .nop⟩, ⟨[], [(12, true)], .nop⟩, ⟨[], [(12, true)], .ix (.e 3) [] (.c (.n 0))⟩, ⟨[], [(12, true)], .nop⟩, ⟨[], [(12, true)], .bi .eql (.e 13) (.c (.n 0))⟩, ⟨[], [], .pk (.e 12) (.e 14) (.c (.b false))⟩] [some 0, none, none, some 3, none, none, none, none, none, some 15, none])
 (.cond 9 (.reg [⟨[], [], .nop⟩, ⟨[], [], .ix (.e 3) [] (.c (.n 1))⟩, ⟨[], [], .up 3 [.k 1] (.c (.n 1))⟩] [some 0, none, none, some 12, none, none, none, none, none, none, none]) (.skip))))
 ((.seq ((.seq (.reg [⟨[], [], .nop⟩, ⟨[], [], .ca 307 [(.e 0), (.c (.n 14))] 2⟩] [some 12, none, none, some 3, none, none, none, none, none, none, some 11])
 (.cond 10 (.reg [⟨[], [], .nop⟩, ⟨[], [], .nop⟩, ⟨[], [], .li (.o .v) [(.c (.n 1000001)), (.c (.n (-9223372036854775808))), (.c (.n 1000000))]⟩, ⟨[], [], .ca 313 [(.e 0), (.e 11)] 2⟩, ⟨[], [], .ix (.e 3) [] (.c (.n 0))⟩, ⟨[], [], .up 3 [.k 0] (.e 12)⟩] [some 13, none, none, some 15, none, none, none, none, none, none, none]) (.skip))))
 ((.seq (.reg [⟨[], [], .nop⟩, ⟨[], [], .nop⟩] [some 0, some 3, none, none, none, none, none, none, none, none, none])
 (.ret))))))))))))))⟩

/-- loop.example/g03401/spec.l30Det -/
def ir_spec_l30Det : IF := ⟨[], 1, 10, [1],
 (.seq (.reg [⟨[], [], .cs .v (.n 0)⟩] [some 0, none, none, none, none, none, none, none, none, none])
 ((.seq ((.seq (.reg [⟨[], [], .nop⟩, ⟨[], [], .ln (.e 0) []⟩, ⟨[], [], .bi .eql (.e 10) (.c (.n 0))⟩] [some 0, none, none, none, none, none, none, some 11, none, none])
 (.cond 7 ((.seq (.reg [⟨[], [], .cs .v (.n 1)⟩] [none, some 10, none, none, none, none, none, none, none, none])
  (.ret))) (.skip))))
 ((.seq (.reg [⟨[], [], .cs .v (.n 0)⟩] [some 0, none, some 10, none, none, none, none, none, none, none])
 ((.seq (.reg [⟨[], [], .cs .v (.n 1)⟩] [some 0, none, some 2, some 10, none, none, none, none, none, none])
 ((.seq ((.seq (.reg [⟨[], [], .cs .v (.n 0)⟩] [some 0, none, some 2, some 3, some 10, none, none, none, none, none])
 (.block 0 (.loop ((.seq ((.seq (.reg [⟨[], [], .nop⟩, ⟨[], [], .nop⟩, ⟨[], [], .ln (.e 0) []⟩, ⟨[], [], .bi .lss (.e 4) (.e 10)⟩] [some 0, none, some 2, some 3, some 4, none, none, none, some 11, none])
   (.cond 8 (.skip) (.exit 0))))
   ((.seq (.block 1 ((.seq (.reg [⟨[], [], .li (.o .v) []⟩, ⟨[], [], .nop⟩] [some 0, none, some 2, some 3, some 4, some 10, none, none, none, none])
    ((.seq ((.seq (.reg [⟨[], [], .cs .v (.n 1)⟩] [some 0, none, some 2, some 3, some 4, some 5, some 10, none, none, none])
    (.block 2 (.loop ((.seq ((.seq (.reg [⟨[], [], .nop⟩, ⟨[], [], .nop⟩, ⟨[], [], .ln (.e 0) []⟩, ⟨[], [], .bi .lss (.e 6) (.e 10)⟩] [some 0, none, some 2, some 3, some 4, some 5, some 6, none, none, some 11])
      (.cond 9 (.skip) (.exit 2))))
      ((.seq (.block 3 (.reg [⟨[], [], .nop⟩, ⟨[], [], .li (.o .v) []⟩, ⟨[], [], .nop⟩, ⟨[], [], .nop⟩, ⟨[], [], .ix (.e 0) [] (.e 6)⟩, ⟨[], [], .nop⟩, ⟨[], [], .nop⟩, ⟨[], [], .sb false (.e 11) none (some (.e 4))⟩, ⟨[], [], .ap true (.e 10) (.e 12)⟩, ⟨[], [], .nop⟩, ⟨[], [], .nop⟩, ⟨[], [], .ix (.e 0) [] (.e 6)⟩, ⟨[], [], .nop⟩, ⟨[], [], .nop⟩, ⟨[], [], .bi .add (.e 4) (.c (.n 1))⟩, ⟨[], [], .sb false (.e 14) (some (.e 15)) none⟩, ⟨[], [], .ap true (.e 13) (.e 16)⟩, ⟨[], [], .li (.o .v) [(.e 17)]⟩, ⟨[], [], .ap false (.e 5) (.e 18)⟩, ⟨[], [], .nop⟩] [some 0, none, some 2, some 3, some 4, some 19, some 6, none, none, none]))
      (.reg [⟨[], [], .nop⟩, ⟨[], [], .bi .add (.e 6) (.c (.n 1))⟩, ⟨[], [], .nop⟩] [some 0, none, some 2, some 3, some 4, some 5, some 10, none, none, none])))))))))
    ((.seq (.reg [⟨[], [], .nop⟩, ⟨[], [], .nop⟩, ⟨[], [], .nop⟩, ⟨[], [], .ix (.e 0) [] (.c (.n 0))⟩, ⟨[], [], .nop⟩, ⟨[], [], .nop⟩, ⟨[], [], .iy (.e 10) (.e 4)⟩, ⟨[], [], .nop⟩, ⟨[], [], .bi .mul (.e 3) (.e 11)⟩, ⟨[], [], .nop⟩, ⟨[], [], .ca 126 [(.e 5)] 1⟩, ⟨[], [], .bi .mul (.e 12) (.e 13)⟩, ⟨[], [], .bi .add (.e 2) (.e 14)⟩, ⟨[], [], .nop⟩] [some 0, none, some 15, some 3, some 4, none, none, none, none, none])
    (.reg [⟨[], [], .nop⟩, ⟨[], [], .un .neg (.e 3)⟩, ⟨[], [], .nop⟩] [some 0, none, some 2, some 10, some 4, none, none, none, none, none]))))))))
   (.reg [⟨[], [], .nop⟩, ⟨[], [], .bi .add (.e 4) (.c (.n 1))⟩, ⟨[], [], .nop⟩] [some 0, none, some 2, some 3, some 10, none, none, none, none, none])))))))))
 ((.seq (.reg [⟨[], [], .nop⟩, ⟨[], [], .nop⟩] [none, some 2, none, none, none, none, none, none, none, none])
 (.ret))))))))))))⟩

/-- loop.example/g03401/spec.l30Fine -/
def ir_spec_l30Fine : IF := ⟨[], 1, 5, [1],
 (.seq (.reg [⟨[], [], .cs .v (.b false)⟩] [some 0, none, none, none, none])
 ((.seq ((.seq (.reg [⟨[], [], .cs .v (.n 0)⟩] [some 0, none, some 5, none, none])
 (.block 0 (.loop ((.seq ((.seq (.reg [⟨[], [], .nop⟩, ⟨[], [], .nop⟩, ⟨[], [], .ln (.e 0) []⟩, ⟨[], [], .bi .lss (.e 2) (.e 5)⟩] [some 0, none, some 2, some 6, none])
   (.cond 3 (.skip) (.exit 0))))
   ((.seq (.block 1 ((.seq (.reg [⟨[], [], .nop⟩, ⟨[], [], .nop⟩, ⟨[], [], .iy (.e 0) (.e 2)⟩, ⟨[], [], .nop⟩, ⟨[], [], .ca 22 [(.e 5), (.c (.n (-1000000))), (.c (.n 1000000))] 1⟩, ⟨[], [], .un .not (.e 6)⟩] [some 0, none, some 2, none, some 7])
    (.cond 4 ((.seq (.reg [⟨[], [], .cs .v (.b false)⟩] [none, some 5, none, none, none])
     (.ret))) (.skip)))))
   (.reg [⟨[], [], .nop⟩, ⟨[], [], .bi .add (.e 2) (.c (.n 1))⟩, ⟨[], [], .nop⟩] [some 0, none, some 5, none, none])))))))))
 ((.seq (.reg [⟨[], [], .nop⟩, ⟨[], [], .ln (.e 0) []⟩, ⟨[], [], .ca 22 [(.e 5), (.c (.n 1)), (.c (.n 12))] 1⟩, ⟨[], [], .nop⟩] [none, some 6, none, none, none])
 (.ret))))))⟩

/-- loop.example/g03401/spec.l30Times -/
def ir_spec_l30Times : IF := ⟨[], 2, 9, [2],
 (.seq (.reg [⟨[], [], .cs (.o .v) (.l [])⟩] [some 0, some 1, none, none, none, none, none, none, none])
 ((.seq (.reg [⟨[], [], .nop⟩, ⟨[], [], .ln (.e 0) []⟩, ⟨[], [], .nop⟩, ⟨[], [], .ln (.e 1) []⟩, ⟨[], [], .mn (.e 9) (.e 10)⟩, ⟨[], [], .nop⟩] [some 0, some 1, none, some 11, none, none, none, none, none])
 ((.seq (.reg [⟨[], [], .nop⟩, ⟨[], [], .mk (.n 0) (.e 3) (.e 3)⟩, ⟨[], [], .nop⟩] [some 0, some 1, none, some 3, some 9, none, none, none, none])
 ((.seq ((.seq (.reg [⟨[], [], .cs .v (.n 0)⟩] [some 0, some 1, none, some 3, some 4, some 9, none, none, none])
 (.block 0 (.loop ((.seq ((.seq (.reg [⟨[], [], .nop⟩, ⟨[], [], .nop⟩, ⟨[], [], .bi .lss (.e 5) (.e 3)⟩] [some 0, some 1, none, some 3, some 4, some 5, none, some 9, none])
   (.cond 7 (.skip) (.exit 0))))
   ((.seq (.block 1 ((.seq (.reg [⟨[], [], .cs .v (.n 0)⟩] [some 0, some 1, none, some 3, some 4, some 5, some 9, none, none])
    (.block 2 (.loop ((.seq ((.seq (.reg [⟨[], [], .nop⟩, ⟨[], [], .nop⟩, ⟨[], [], .bi .leq (.e 6) (.e 5)⟩] [some 0, some 1, none, some 3, some 4, some 5, some 6, none, some 9])
      (.cond 8 (.skip) (.exit 2))))
      ((.seq (.block 3 (.reg [⟨[], [], .nop⟩, ⟨[], [], .nop⟩, ⟨[], [], .nop⟩, ⟨[], [], .nop⟩, ⟨[], [], .ix (.e 4) [] (.e 5)⟩, ⟨[], [], .nop⟩, ⟨[], [], .nop⟩, ⟨[], [], .nop⟩, ⟨[], [], .iy (.e 0) (.e 6)⟩, ⟨[], [], .nop⟩, ⟨[], [], .nop⟩, ⟨[], [], .nop⟩, ⟨[], [], .nop⟩, ⟨[], [], .bi .sub (.e 5) (.e 6)⟩, ⟨[], [], .iy (.e 1) (.e 11)⟩, ⟨[], [], .nop⟩, ⟨[], [], .bi .mul (.e 10) (.e 12)⟩, ⟨[], [], .bi .add (.e 9) (.e 13)⟩, ⟨[], [], .ix (.e 4) [] (.e 5)⟩, ⟨[], [], .up 4 [.e 5] (.e 14)⟩] [some 0, some 1, none, some 3, some 16, some 5, some 6, none, none]))
      (.reg [⟨[], [], .nop⟩, ⟨[], [], .bi .add (.e 6) (.c (.n 1))⟩, ⟨[], [], .nop⟩] [some 0, some 1, none, some 3, some 4, some 5, some 9, none, none]))))))))))
   (.reg [⟨[], [], .nop⟩, ⟨[], [], .bi .add (.e 5) (.c (.n 1))⟩, ⟨[], [], .nop⟩] [some 0, some 1, none, some 3, some 4, some 9, none, none, none])))))))))
 ((.seq (.reg [⟨[], [], .nop⟩, ⟨[], [], .nop⟩] [none, none, some 4, none, none, none, none, none, none])
 (.ret))))))))))⟩

end Go.Cat

namespace Go.Cat
/-- loop.example/g03401/laws.FnExactSatisfiesCatalan -/
def ir_laws_FnExactSatisfiesCatalan : IF := ⟨[], 1, 8, [1],
 (.seq (.reg [⟨[], [], .cs .v (.b false)⟩] [some 0, none, none, none, none, none, none, none])
 ((.seq ((.seq (.reg [⟨[], [], .nop⟩, ⟨[], [], .ln (.e 0) []⟩, ⟨[], [], .bi .gtr (.e 8) (.c (.n 1048576))⟩] [some 0, none, none, none, none, some 9, none, none])
 (.cond 5 ((.seq (.reg [⟨[], [], .cs .v (.b true)⟩] [none, some 8, none, none, none, none, none, none])
  (.ret))) (.skip))))
 ((.seq (.reg [⟨[], [], .nop⟩, ⟨[], [], .ca 42 [(.e 0)] 1⟩, ⟨[], [], .ca 47 [(.e 8)] 1⟩, ⟨[], [], .nop⟩] [some 0, none, some 9, none, none, none, none, none])
 ((.seq (.reg [⟨[], [], .nop⟩, ⟨[], [], .ca 42 [(.e 0)] 1⟩, ⟨[], [], .nop⟩] [some 0, none, some 2, some 8, none, none, none, none])
 ((.seq (.reg [⟨[], [], .nop⟩, ⟨[], [], .ca 48 [(.e 3)] 1⟩, ⟨[], [], .nop⟩] [some 0, none, some 2, some 3, some 8, none, none, none])
 ((.seq ((.seq (.reg [⟨[], [], .nop⟩, ⟨[], [], .nop⟩, ⟨[], [], .bb .neq (.e 4) (.e 2)⟩] [some 0, none, none, some 3, none, none, some 8, none])
 (.cond 6 ((.seq (.reg [⟨[], [], .cs .v (.b false)⟩] [none, some 8, none, none, none, none, none, none])
  (.ret))) (.skip))))
 ((.seq ((.seq (.reg [⟨[], [], .nop⟩, ⟨[], [], .nop⟩, ⟨[], [], .ca 42 [(.e 0)] 1⟩, ⟨[], [], .ca 44 [(.e 3), (.e 8)] 1⟩, ⟨[], [], .un .not (.e 9)⟩] [none, none, none, none, none, none, none, some 10])
 (.cond 7 ((.seq (.reg [⟨[], [], .cs .v (.b false)⟩] [none, some 8, none, none, none, none, none, none])
  (.ret))) (.skip))))
 ((.seq (.reg [⟨[], [], .cs .v (.b true)⟩] [none, some 8, none, none, none, none, none, none])
 (.ret))))))))))))))))⟩

end Go.Cat

namespace Go.Cat
/-- loop.example/g03401/laws.FnExactInverseSeries -/
def ir_laws_FnExactInverseSeries : IF := ⟨[], 1, 21, [1],
 (.seq (.reg [⟨[], [], .cs .v (.b false)⟩] [some 0, none, none, none, none, none, none, none, none, none, none, none, none, none, none, none, none, none, none, none, none])
 ((.seq ((.seq (.reg [⟨[], [], .nop⟩, ⟨[], [], .ln (.e 0) []⟩, ⟨[], [], .bi .gtr (.e 21) (.c (.n 1048576))⟩] [some 0, none, none, none, none, none, none, none, none, none, none, none, some 22, none, none, none, none, none, none, none, none])
 (.cond 12 ((.seq (.reg [⟨[], [], .cs .v (.b true)⟩] [none, some 21, none, none, none, none, none, none, none, none, none, none, none, none, none, none, none, none, none, none, none])
  (.ret))) (.skip))))
 ((.seq (.reg [⟨[], [], .nop⟩, ⟨[], [], .ca 42 [(.e 0)] 1⟩, ⟨[], [], .ca 55 [(.e 21)] 2⟩, ⟨[], [], .nop⟩, ⟨[], [], .nop⟩, ⟨[], [], .nop⟩, ⟨[], [], .nop⟩, ⟨[], [], .nop⟩] [some 0, none, some 22, some 23, none, none, none, none, none, none, none, none, none, none, none, none, none, none, none, none, none])
 ((.seq (.reg [⟨[], [], .nop⟩, ⟨[], [], .ca 42 [(.e 0)] 1⟩, ⟨[], [], .nop⟩] [some 0, none, some 2, some 3, some 21, none, none, none, none, none, none, none, none, none, none, none, none, none, none, none, none])
 ((.seq (.reg [⟨[], [], .nop⟩, ⟨[], [], .ca 56 [(.e 4)] 2⟩, ⟨[], [], .nop⟩, ⟨[], [], .nop⟩, ⟨[], [], .nop⟩, ⟨[], [], .nop⟩, ⟨[], [], .nop⟩] [some 0, none, some 2, some 3, some 4, some 21, some 22, none, none, none, none, none, none, none, none, none, none, none, none, none, none])
 ((.seq ((.seq (.reg [⟨[], [], .nop⟩, ⟨[], [], .nop⟩, ⟨[], [], .ca 44 [(.e 5), (.e 2)] 1⟩, ⟨[], [], .un .not (.e 21)⟩, ⟨[], [], .nop⟩, ⟨[], [(22, false)], .cy (.e 6)⟩, ⟨[], [(22, false)], .cy (.e 3)⟩, ⟨[], [(22, false)], .bb .neq (.e 23) (.e 24)⟩, ⟨[], [], .pk (.e 22) (.c (.b true)) (.e 25)⟩] [some 0, none, some 2, some 3, some 4, some 5, some 6, none, none, none, none, none, none, some 26, none, none, none, none, none, none, none])
 (.cond 13 ((.seq (.reg [⟨[], [], .cs .v (.b false)⟩] [none, some 21, none, none, none, none, none, none, none, none, none, none, none, none, none, none, none, none, none, none, none])
  (.ret))) (.skip))))
 ((.seq ((.seq (.reg [⟨[], [], .nop⟩, ⟨[], [], .nop⟩, ⟨[], [], .ca 42 [(.e 0)] 1⟩, ⟨[], [], .ca 44 [(.e 4), (.e 21)] 1⟩, ⟨[], [], .un .not (.e 22)⟩] [some 0, none, some 2, some 3, some 4, some 5, some 6, none, none, none, none, none, none, none, some 23, none, none, none, none, none, none])
 (.cond 14 ((.seq (.reg [⟨[], [], .cs .v (.b false)⟩] [none, some 21, none, none, none, none, none, none, none, none, none, none, none, none, none, none, none, none, none, none, none])
  (.ret))) (.skip))))
 ((.seq (.reg [⟨[], [], .cs .v (.n 1)⟩] [some 0, none, some 2, some 3, some 4, some 5, some 6, some 21, none, none, none, none, none, none, none, none, none, none, none, none, none])
 ((.seq (.reg [⟨[], [], .nop⟩, ⟨[], [], .nop⟩, ⟨[], [], .ca 45 [(.e 4), (.e 7)] 2⟩, ⟨[], [], .nop⟩] [some 0, none, some 2, some 3, none, some 5, some 6, some 21, none, none, none, none, none, none, none, none, none, none, none, none, none])
 ((.seq ((.seq (.reg [⟨[], [], .nop⟩, ⟨[], [], .bi .lss (.e 7) (.c (.n 0))⟩, ⟨[], [], .nop⟩, ⟨[], [(21, false)], .nop⟩, ⟨[], [(21, false)], .cy (.e 2)⟩, ⟨[], [(21, false)], .ca 44 [(.e 5), (.e 22)] 1⟩, ⟨[], [(21, false)], .un .not (.e 23)⟩, ⟨[], [], .pk (.e 21) (.c (.b true)) (.e 24)⟩, ⟨[], [], .nop⟩, ⟨[], [(25, false)], .cy (.e 6)⟩, ⟨[], [(25, false)], .cy (.e 3)⟩, ⟨[], [(25, false)], .bb .neq (.e 26) (.e 27)⟩, ⟨[], [], .pk (.e 25) (.c (.b true)) (.e 28)⟩] [some 0, none, some 2, some 3, none, some 5, none, none, none, none, none, none, none, none, none, some 29, none, none, none, none, none])
 (.cond 15 ((.seq (.reg [⟨[], [], .cs .v (.b false)⟩] [none, some 21, none, none, none, none, none, none, none, none, none, none, none, none, none, none, none, none, none, none, none])
  (.ret))) (.skip))))
 ((.seq (.reg [⟨[], [], .cs .v (.n 1)⟩] [some 0, none, some 2, some 3, none, some 5, none, none, some 21, none, none, none, none, none, none, none, none, none, none, none, none])
 ((.seq (.reg [⟨[], [], .nop⟩, ⟨[], [], .nop⟩, ⟨[], [], .ca 45 [(.e 5), (.e 8)] 2⟩, ⟨[], [], .nop⟩] [some 0, none, some 2, some 3, none, some 22, none, none, some 21, none, none, none, none, none, none, none, none, none, none, none, none])
 ((.seq (.reg [⟨[], [], .cs .v (.n 1)⟩] [some 0, none, some 2, some 3, none, some 5, none, none, some 8, some 21, none, none, none, none, none, none, none, none, none, none, none])
 ((.seq (.reg [⟨[], [], .nop⟩, ⟨[], [], .nop⟩, ⟨[], [], .ca 46 [(.e 5), (.e 9)] 1⟩, ⟨[], [], .nop⟩] [some 0, none, some 2, some 3, none, some 5, none, none, some 8, some 21, none, none, none, none, none, none, none, none, none, none, none])
 ((.seq ((.seq (.reg [⟨[], [], .nop⟩, ⟨[], [], .bi .lss (.e 9) (.c (.n 0))⟩] [some 0, none, some 2, some 3, none, some 5, none, none, some 8, some 9, none, none, none, none, none, none, some 21, none, none, none, none])
 (.cond 16 ((.seq (.reg [⟨[], [], .cs .v (.b false)⟩] [none, some 21, none, none, none, none, none, none, none, none, none, none, none, none, none, none, none, none, none, none, none])
  (.ret))) (.skip))))
 ((.seq ((.seq (.reg [⟨[], [], .nop⟩, ⟨[], [], .nop⟩, ⟨[], [], .bi .neq (.e 9) (.e 8)⟩] [some 0, none, some 2, some 3, none, some 5, none, none, some 8, none, none, none, none, none, none, none, none, some 21, none, none, none])
 (.cond 17 ((.seq (.reg [⟨[], [], .cs .v (.b false)⟩] [none, some 21, none, none, none, none, none, none, none, none, none, none, none, none, none, none, none, none, none, none, none])
  (.ret))) (.skip))))
 ((.seq (.reg [⟨[], [], .nop⟩, ⟨[], [], .ca 42 [(.e 0)] 1⟩, ⟨[], [], .ca 56 [(.e 21)] 2⟩, ⟨[], [], .nop⟩, ⟨[], [], .nop⟩, ⟨[], [], .nop⟩, ⟨[], [], .nop⟩, ⟨[], [], .nop⟩] [none, none, some 2, some 3, none, some 5, none, none, some 8, none, some 22, some 23, none, none, none, none, none, none, none, none, none])
 ((.seq ((.seq (.reg [⟨[], [], .nop⟩, ⟨[], [], .nop⟩, ⟨[], [], .ca 44 [(.e 10), (.e 2)] 1⟩, ⟨[], [], .un .not (.e 21)⟩, ⟨[], [], .nop⟩, ⟨[], [(22, false)], .cy (.e 11)⟩, ⟨[], [(22, false)], .cy (.e 3)⟩, ⟨[], [(22, false)], .bb .neq (.e 23) (.e 24)⟩, ⟨[], [], .pk (.e 22) (.c (.b true)) (.e 25)⟩] [none, none, none, none, none, some 5, none, none, some 8, none, none, none, none, none, none, none, none, none, some 26, none, none])
 (.cond 18 ((.seq (.reg [⟨[], [], .cs .v (.b false)⟩] [none, some 21, none, none, none, none, none, none, none, none, none, none, none, none, none, none, none, none, none, none, none])
  (.ret))) (.skip))))
 ((.seq (.reg [⟨[], [], .cs .v (.n 1)⟩] [none, none, none, none, none, some 5, none, none, some 8, some 21, none, none, none, none, none, none, none, none, none, none, none])
 ((.seq (.reg [⟨[], [], .nop⟩, ⟨[], [], .nop⟩, ⟨[], [], .ca 46 [(.e 5), (.e 9)] 1⟩, ⟨[], [], .nop⟩] [none, none, none, none, none, none, none, none, some 8, some 21, none, none, none, none, none, none, none, none, none, none, none])
 ((.seq ((.seq (.reg [⟨[], [], .nop⟩, ⟨[], [], .bi .lss (.e 9) (.c (.n 0))⟩] [none, none, none, none, none, none, none, none, some 8, some 9, none, none, none, none, none, none, none, none, none, some 21, none])
 (.cond 19 ((.seq (.reg [⟨[], [], .cs .v (.b false)⟩] [none, some 21, none, none, none, none, none, none, none, none, none, none, none, none, none, none, none, none, none, none, none])
  (.ret))) (.skip))))
 ((.seq ((.seq (.reg [⟨[], [], .nop⟩, ⟨[], [], .nop⟩, ⟨[], [], .bi .neq (.e 9) (.e 8)⟩] [none, none, none, none, none, none, none, none, none, none, none, none, none, none, none, none, none, none, none, none, some 21])
 (.cond 20 ((.seq (.reg [⟨[], [], .cs .v (.b false)⟩] [none, some 21, none, none, none, none, none, none, none, none, none, none, none, none, none, none, none, none, none, none, none])
  (.ret))) (.skip))))
 ((.seq (.reg [⟨[], [], .cs .v (.b true)⟩] [none, some 21, none, none, none, none, none, none, none, none, none, none, none, none, none, none, none, none, none, none, none])
 (.ret))))))))))))))))))))))))))))))))))))))))))))))⟩

end Go.Cat

namespace Go.Cat
/-- loop.example/g03401/laws.FnExactBinomialTransform -/
def ir_laws_FnExactBinomialTransform : IF := ⟨[], 1, 21, [1],
 (.seq (.reg [⟨[], [], .cs .v (.b false)⟩] [some 0, none, none, none, none, none, none, none, none, none, none, none, none, none, none, none, none, none, none, none, none])
 ((.seq ((.seq (.reg [⟨[], [], .nop⟩, ⟨[], [], .ln (.e 0) []⟩, ⟨[], [], .bi .gtr (.e 21) (.c (.n 1048576))⟩] [some 0, none, none, none, none, none, none, none, none, none, none, none, some 22, none, none, none, none, none, none, none, none])
 (.cond 12 ((.seq (.reg [⟨[], [], .cs .v (.b true)⟩] [none, some 21, none, none, none, none, none, none, none, none, none, none, none, none, none, none, none, none, none, none, none])
  (.ret))) (.skip))))
 ((.seq (.reg [⟨[], [], .nop⟩, ⟨[], [], .ca 42 [(.e 0)] 1⟩, ⟨[], [], .ca 57 [(.e 21)] 2⟩, ⟨[], [], .nop⟩, ⟨[], [], .nop⟩, ⟨[], [], .nop⟩, ⟨[], [], .nop⟩, ⟨[], [], .nop⟩] [some 0, none, some 22, some 23, none, none, none, none, none, none, none, none, none, none, none, none, none, none, none, none, none])
 ((.seq (.reg [⟨[], [], .nop⟩, ⟨[], [], .ca 42 [(.e 0)] 1⟩, ⟨[], [], .nop⟩] [some 0, none, some 2, some 3, some 21, none, none, none, none, none, none, none, none, none, none, none, none, none, none, none, none])
 ((.seq (.reg [⟨[], [], .nop⟩, ⟨[], [], .ca 58 [(.e 4)] 2⟩, ⟨[], [], .nop⟩, ⟨[], [], .nop⟩, ⟨[], [], .nop⟩, ⟨[], [], .nop⟩, ⟨[], [], .nop⟩] [some 0, none, some 2, some 3, some 4, some 21, some 22, none, none, none, none, none, none, none, none, none, none, none, none, none, none])
 ((.seq ((.seq (.reg [⟨[], [], .nop⟩, ⟨[], [], .nop⟩, ⟨[], [], .ca 44 [(.e 5), (.e 2)] 1⟩, ⟨[], [], .un .not (.e 21)⟩, ⟨[], [], .nop⟩, ⟨[], [(22, false)], .cy (.e 6)⟩, ⟨[], [(22, false)], .cy (.e 3)⟩, ⟨[], [(22, false)], .bb .neq (.e 23) (.e 24)⟩, ⟨[], [], .pk (.e 22) (.c (.b true)) (.e 25)⟩] [some 0, none, some 2, some 3, some 4, some 5, some 6, none, none, none, none, none, none, some 26, none, none, none, none, none, none, none])
 (.cond 13 ((.seq (.reg [⟨[], [], .cs .v (.b false)⟩] [none, some 21, none, none, none, none, none, none, none, none, none, none, none, none, none, none, none, none, none, none, none])
  (.ret))) (.skip))))
 ((.seq ((.seq (.reg [⟨[], [], .nop⟩, ⟨[], [], .nop⟩, ⟨[], [], .ca 42 [(.e 0)] 1⟩, ⟨[], [], .ca 44 [(.e 4), (.e 21)] 1⟩, ⟨[], [], .un .not (.e 22)⟩] [some 0, none, some 2, some 3, some 4, some 5, some 6, none, none, none, none, none, none, none, some 23, none, none, none, none, none, none])
 (.cond 14 ((.seq (.reg [⟨[], [], .cs .v (.b false)⟩] [none, some 21, none, none, none, none, none, none, none, none, none, none, none, none, none, none, none, none, none, none, none])
  (.ret))) (.skip))))
 ((.seq (.reg [⟨[], [], .cs .v (.n 1)⟩] [some 0, none, some 2, some 3, some 4, some 5, some 6, some 21, none, none, none, none, none, none, none, none, none, none, none, none, none])
 ((.seq (.reg [⟨[], [], .nop⟩, ⟨[], [], .nop⟩, ⟨[], [], .ca 45 [(.e 4), (.e 7)] 2⟩, ⟨[], [], .nop⟩] [some 0, none, some 2, some 3, none, some 5, some 6, some 21, none, none, none, none, none, none, none, none, none, none, none, none, none])
 ((.seq ((.seq (.reg [⟨[], [], .nop⟩, ⟨[], [], .bi .lss (.e 7) (.c (.n 0))⟩, ⟨[], [], .nop⟩, ⟨[], [(21, false)], .nop⟩, ⟨[], [(21, false)], .cy (.e 2)⟩, ⟨[], [(21, false)], .ca 44 [(.e 5), (.e 22)] 1⟩, ⟨[], [(21, false)], .un .not (.e 23)⟩, ⟨[], [], .pk (.e 21) (.c (.b true)) (.e 24)⟩, ⟨[], [], .nop⟩, ⟨[], [(25, false)], .cy (.e 6)⟩, ⟨[], [(25, false)], .cy (.e 3)⟩, ⟨[], [(25, false)], .bb .neq (.e 26) (.e 27)⟩, ⟨[], [], .pk (.e 25) (.c (.b true)) (.e 28)⟩] [some 0, none, some 2, some 3, none, some 5, none, none, none, none, none, none, none, none, none, some 29, none, none, none, none, none])
 (.cond 15 ((.seq (.reg [⟨[], [], .cs .v (.b false)⟩] [none, some 21, none, none, none, none, none, none, none, none, none, none, none, none, none, none, none, none, none, none, none])
  (.ret))) (.skip))))
 ((.seq (.reg [⟨[], [], .cs .v (.n 1)⟩] [some 0, none, some 2, some 3, none, some 5, none, none, some 21, none, none, none, none, none, none, none, none, none, none, none, none])
 ((.seq (.reg [⟨[], [], .nop⟩, ⟨[], [], .nop⟩, ⟨[], [], .ca 45 [(.e 5), (.e 8)] 2⟩, ⟨[], [], .nop⟩] [some 0, none, some 2, some 3, none, some 22, none, none, some 21, none, none, none, none, none, none, none, none, none, none, none, none])
 ((.seq (.reg [⟨[], [], .cs .v (.n 1)⟩] [some 0, none, some 2, some 3, none, some 5, none, none, some 8, some 21, none, none, none, none, none, none, none, none, none, none, none])
 ((.seq (.reg [⟨[], [], .nop⟩, ⟨[], [], .nop⟩, ⟨[], [], .ca 46 [(.e 5), (.e 9)] 1⟩, ⟨[], [], .nop⟩] [some 0, none, some 2, some 3, none, some 5, none, none, some 8, some 21, none, none, none, none, none, none, none, none, none, none, none])
 ((.seq ((.seq (.reg [⟨[], [], .nop⟩, ⟨[], [], .bi .lss (.e 9) (.c (.n 0))⟩] [some 0, none, some 2, some 3, none, some 5, none, none, some 8, some 9, none, none, none, none, none, none, some 21, none, none, none, none])
 (.cond 16 ((.seq (.reg [⟨[], [], .cs .v (.b false)⟩] [none, some 21, none, none, none, none, none, none, none, none, none, none, none, none, none, none, none, none, none, none, none])
  (.ret))) (.skip))))
 ((.seq ((.seq (.reg [⟨[], [], .nop⟩, ⟨[], [], .nop⟩, ⟨[], [], .bi .neq (.e 9) (.e 8)⟩] [some 0, none, some 2, some 3, none, some 5, none, none, some 8, none, none, none, none, none, none, none, none, some 21, none, none, none])
 (.cond 17 ((.seq (.reg [⟨[], [], .cs .v (.b false)⟩] [none, some 21, none, none, none, none, none, none, none, none, none, none, none, none, none, none, none, none, none, none, none])
  (.ret))) (.skip))))
 ((.seq (.reg [⟨[], [], .nop⟩, ⟨[], [], .ca 42 [(.e 0)] 1⟩, ⟨[], [], .ca 58 [(.e 21)] 2⟩, ⟨[], [], .nop⟩, ⟨[], [], .nop⟩, ⟨[], [], .nop⟩, ⟨[], [], .nop⟩, ⟨[], [], .nop⟩] [none, none, some 2, some 3, none, some 5, none, none, some 8, none, some 22, some 23, none, none, none, none, none, none, none, none, none])
 ((.seq ((.seq (.reg [⟨[], [], .nop⟩, ⟨[], [], .nop⟩, ⟨[], [], .ca 44 [(.e 10), (.e 2)] 1⟩, ⟨[], [], .un .not (.e 21)⟩, ⟨[], [], .nop⟩, ⟨[], [(22, false)], .cy (.e 11)⟩, ⟨[], [(22, false)], .cy (.e 3)⟩, ⟨[], [(22, false)], .bb .neq (.e 23) (.e 24)⟩, ⟨[], [], .pk (.e 22) (.c (.b true)) (.e 25)⟩] [none, none, none, none, none, some 5, none, none, some 8, none, none, none, none, none, none, none, none, none, some 26, none, none])
 (.cond 18 ((.seq (.reg [⟨[], [], .cs .v (.b false)⟩] [none, some 21, none, none, none, none, none, none, none, none, none, none, none, none, none, none, none, none, none, none, none])
  (.ret))) (.skip))))
 ((.seq (.reg [⟨[], [], .cs .v (.n 1)⟩] [none, none, none, none, none, some 5, none, none, some 8, some 21, none, none, none, none, none, none, none, none, none, none, none])
 ((.seq (.reg [⟨[], [], .nop⟩, ⟨[], [], .nop⟩, ⟨[], [], .ca 46 [(.e 5), (.e 9)] 1⟩, ⟨[], [], .nop⟩] [none, none, none, none, none, none, none, none, some 8, some 21, none, none, none, none, none, none, none, none, none, none, none])
 ((.seq ((.seq (.reg [⟨[], [], .nop⟩, ⟨[], [], .bi .lss (.e 9) (.c (.n 0))⟩] [none, none, none, none, none, none, none, none, some 8, some 9, none, none, none, none, none, none, none, none, none, some 21, none])
 (.cond 19 ((.seq (.reg [⟨[], [], .cs .v (.b false)⟩] [none, some 21, none, none, none, none, none, none, none, none, none, none, none, none, none, none, none, none, none, none, none])
  (.ret))) (.skip))))
 ((.seq ((.seq (.reg [⟨[], [], .nop⟩, ⟨[], [], .nop⟩, ⟨[], [], .bi .neq (.e 9) (.e 8)⟩] [none, none, none, none, none, none, none, none, none, none, none, none, none, none, none, none, none, none, none, none, some 21])
 (.cond 20 ((.seq (.reg [⟨[], [], .cs .v (.b false)⟩] [none, some 21, none, none, none, none, none, none, none, none, none, none, none, none, none, none, none, none, none, none, none])
  (.ret))) (.skip))))
 ((.seq (.reg [⟨[], [], .cs .v (.b true)⟩] [none, some 21, none, none, none, none, none, none, none, none, none, none, none, none, none, none, none, none, none, none, none])
 (.ret))))))))))))))))))))))))))))))))))))))))))))))⟩

end Go.Cat

namespace Go.Cat
/-- loop.example/g03401/laws.FnExactCatalanSeries -/
def ir_laws_FnExactCatalanSeries : IF := ⟨[], 1, 16, [1],
 (.seq (.reg [⟨[], [], .cs .v (.b false)⟩] [some 0, none, none, none, none, none, none, none, none, none, none, none, none, none, none, none])
 ((.seq (.reg [⟨[], [], .nop⟩, ⟨[], [], .ca 59 [(.e 0)] 2⟩, ⟨[], [], .nop⟩, ⟨[], [], .nop⟩, ⟨[], [], .nop⟩, ⟨[], [], .nop⟩, ⟨[], [], .nop⟩] [some 0, none, some 16, some 17, none, none, none, none, none, none, none, none, none, none, none, none])
 ((.seq (.reg [⟨[], [], .nop⟩, ⟨[], [], .ca 60 [(.e 0)] 2⟩, ⟨[], [], .nop⟩, ⟨[], [], .nop⟩, ⟨[], [], .nop⟩, ⟨[], [], .nop⟩, ⟨[], [], .nop⟩] [some 0, none, some 2, some 3, some 16, some 17, none, none, none, none, none, none, none, none, none, none])
 ((.seq ((.seq (.reg [⟨[], [], .nop⟩, ⟨[], [], .nop⟩, ⟨[], [], .ca 44 [(.e 4), (.e 2)] 1⟩, ⟨[], [], .un .not (.e 16)⟩, ⟨[], [], .nop⟩, ⟨[], [(17, false)], .cy (.e 5)⟩, ⟨[], [(17, false)], .cy (.e 3)⟩, ⟨[], [(17, false)], .bb .neq (.e 18) (.e 19)⟩, ⟨[], [], .pk (.e 17) (.c (.b true)) (.e 20)⟩] [some 0, none, some 2, some 3, some 4, none, none, none, none, none, some 21, none, none, none, none, none])
 (.cond 10 ((.seq (.reg [⟨[], [], .cs .v (.b false)⟩] [none, some 16, none, none, none, none, none, none, none, none, none, none, none, none, none, none])
  (.ret))) (.skip))))
 ((.seq (.reg [⟨[], [], .cs .v (.n 1)⟩] [some 0, none, some 2, some 3, some 4, none, some 16, none, none, none, none, none, none, none, none, none])
 ((.seq (.reg [⟨[], [], .nop⟩, ⟨[], [], .nop⟩, ⟨[], [], .ca 45 [(.e 4), (.e 6)] 2⟩, ⟨[], [], .nop⟩] [some 0, none, some 2, some 3, some 17, none, some 16, none, none, none, none, none, none, none, none, none])
 ((.seq (.reg [⟨[], [], .cs .v (.n 1)⟩] [some 0, none, some 2, some 3, some 4, none, some 6, some 16, none, none, none, none, none, none, none, none])
 ((.seq (.reg [⟨[], [], .nop⟩, ⟨[], [], .nop⟩, ⟨[], [], .ca 46 [(.e 4), (.e 7)] 1⟩, ⟨[], [], .nop⟩] [some 0, none, some 2, some 3, some 4, none, some 6, some 16, none, none, none, none, none, none, none, none])
 ((.seq ((.seq (.reg [⟨[], [], .nop⟩, ⟨[], [], .bi .lss (.e 7) (.c (.n 0))⟩] [some 0, none, some 2, some 3, some 4, none, some 6, some 7, none, none, none, some 16, none, none, none, none])
 (.cond 11 ((.seq (.reg [⟨[], [], .cs .v (.b false)⟩] [none, some 16, none, none, none, none, none, none, none, none, none, none, none, none, none, none])
  (.ret))) (.skip))))
 ((.seq ((.seq (.reg [⟨[], [], .nop⟩, ⟨[], [], .nop⟩, ⟨[], [], .bi .neq (.e 7) (.e 6)⟩] [some 0, none, some 2, some 3, some 4, none, some 6, none, none, none, none, none, some 16, none, none, none])
 (.cond 12 ((.seq (.reg [⟨[], [], .cs .v (.b false)⟩] [none, some 16, none, none, none, none, none, none, none, none, none, none, none, none, none, none])
  (.ret))) (.skip))))
 ((.seq (.reg [⟨[], [], .nop⟩, ⟨[], [], .ca 60 [(.e 0)] 2⟩, ⟨[], [], .nop⟩, ⟨[], [], .nop⟩, ⟨[], [], .nop⟩, ⟨[], [], .nop⟩, ⟨[], [], .nop⟩] [none, none, some 2, some 3, some 4, none, some 6, none, some 16, some 17, none, none, none, none, none, none])
 ((.seq ((.seq (.reg [⟨[], [], .nop⟩, ⟨[], [], .nop⟩, ⟨[], [], .ca 44 [(.e 8), (.e 2)] 1⟩, ⟨[], [], .un .not (.e 16)⟩, ⟨[], [], .nop⟩, ⟨[], [(17, false)], .cy (.e 9)⟩, ⟨[], [(17, false)], .cy (.e 3)⟩, ⟨[], [(17, false)], .bb .neq (.e 18) (.e 19)⟩, ⟨[], [], .pk (.e 17) (.c (.b true)) (.e 20)⟩] [none, none, none, none, some 4, none, some 6, none, none, none, none, none, none, some 21, none, none])
 (.cond 13 ((.seq (.reg [⟨[], [], .cs .v (.b false)⟩] [none, some 16, none, none, none, none, none, none, none, none, none, none, none, none, none, none])
  (.ret))) (.skip))))
 ((.seq (.reg [⟨[], [], .cs .v (.n 1)⟩] [none, none, none, none, some 4, none, some 6, some 16, none, none, none, none, none, none, none, none])
 ((.seq (.reg [⟨[], [], .nop⟩, ⟨[], [], .nop⟩, ⟨[], [], .ca 46 [(.e 4), (.e 7)] 1⟩, ⟨[], [], .nop⟩] [none, none, none, none, none, none, some 6, some 16, none, none, none, none, none, none, none, none])
 ((.seq ((.seq (.reg [⟨[], [], .nop⟩, ⟨[], [], .bi .lss (.e 7) (.c (.n 0))⟩] [none, none, none, none, none, none, some 6, some 7, none, none, none, none, none, none, some 16, none])
 (.cond 14 ((.seq (.reg [⟨[], [], .cs .v (.b false)⟩] [none, some 16, none, none, none, none, none, none, none, none, none, none, none, none, none, none])
  (.ret))) (.skip))))
 ((.seq ((.seq (.reg [⟨[], [], .nop⟩, ⟨[], [], .nop⟩, ⟨[], [], .bi .neq (.e 7) (.e 6)⟩] [none, none, none, none, none, none, none, none, none, none, none, none, none, none, none, some 16])
 (.cond 15 ((.seq (.reg [⟨[], [], .cs .v (.b false)⟩] [none, some 16, none, none, none, none, none, none, none, none, none, none, none, none, none, none])
  (.ret))) (.skip))))
 ((.seq (.reg [⟨[], [], .cs .v (.b true)⟩] [none, some 16, none, none, none, none, none, none, none, none, none, none, none, none, none, none])
 (.ret))))))))))))))))))))))))))))))))))⟩

end Go.Cat

namespace Go.Cat
/-- loop.example/g03401/laws.FnExactReversionOf -/
def ir_laws_FnExactReversionOf : IF := ⟨[], 1, 21, [1],
 (.seq (.reg [⟨[], [], .cs .v (.b false)⟩] [some 0, none, none, none, none, none, none, none, none, none, none, none, none, none, none, none, none, none, none, none, none])
 ((.seq ((.seq (.reg [⟨[], [], .nop⟩, ⟨[], [], .ln (.e 0) []⟩, ⟨[], [], .bi .gtr (.e 21) (.c (.n 1048576))⟩] [some 0, none, none, none, none, none, none, none, none, none, none, none, some 22, none, none, none, none, none, none, none, none])
 (.cond 12 ((.seq (.reg [⟨[], [], .cs .v (.b true)⟩] [none, some 21, none, none, none, none, none, none, none, none, none, none, none, none, none, none, none, none, none, none, none])
  (.ret))) (.skip))))
 ((.seq (.reg [⟨[], [], .nop⟩, ⟨[], [], .ca 42 [(.e 0)] 1⟩, ⟨[], [], .ca 103 [(.e 21)] 2⟩, ⟨[], [], .nop⟩, ⟨[], [], .nop⟩, ⟨[], [], .nop⟩, ⟨[], [], .nop⟩, ⟨[], [], .nop⟩] [some 0, none, some 22, some 23, none, none, none, none, none, none, none, none, none, none, none, none, none, none, none, none, none])
 ((.seq (.reg [⟨[], [], .nop⟩, ⟨[], [], .ca 42 [(.e 0)] 1⟩, ⟨[], [], .nop⟩] [some 0, none, some 2, some 3, some 21, none, none, none, none, none, none, none, none, none, none, none, none, none, none, none, none])
 ((.seq (.reg [⟨[], [], .nop⟩, ⟨[], [], .ca 104 [(.e 4)] 2⟩, ⟨[], [], .nop⟩, ⟨[], [], .nop⟩, ⟨[], [], .nop⟩, ⟨[], [], .nop⟩, ⟨[], [], .nop⟩] [some 0, none, some 2, some 3, some 4, some 21, some 22, none, none, none, none, none, none, none, none, none, none, none, none, none, none])
 ((.seq ((.seq (.reg [⟨[], [], .nop⟩, ⟨[], [], .nop⟩, ⟨[], [], .ca 44 [(.e 5), (.e 2)] 1⟩, ⟨[], [], .un .not (.e 21)⟩, ⟨[], [], .nop⟩, ⟨[], [(22, false)], .cy (.e 6)⟩, ⟨[], [(22, false)], .cy (.e 3)⟩, ⟨[], [(22, false)], .bb .neq (.e 23) (.e 24)⟩, ⟨[], [], .pk (.e 22) (.c (.b true)) (.e 25)⟩] [some 0, none, some 2, some 3, some 4, some 5, some 6, none, none, none, none, none, none, some 26, none, none, none, none, none, none, none])
 (.cond 13 ((.seq (.reg [⟨[], [], .cs .v (.b false)⟩] [none, some 21, none, none, none, none, none, none, none, none, none, none, none, none, none, none, none, none, none, none, none])
  (.ret))) (.skip))))
 ((.seq ((.seq (.reg [⟨[], [], .nop⟩, ⟨[], [], .nop⟩, ⟨[], [], .ca 42 [(.e 0)] 1⟩, ⟨[], [], .ca 44 [(.e 4), (.e 21)] 1⟩, ⟨[], [], .un .not (.e 22)⟩] [some 0, none, some 2, some 3, some 4, some 5, some 6, none, none, none, none, none, none, none, some 23, none, none, none, none, none, none])
 (.cond 14 ((.seq (.reg [⟨[], [], .cs .v (.b false)⟩] [none, some 21, none, none, none, none, none, none, none, none, none, none, none, none, none, none, none, none, none, none, none])
  (.ret))) (.skip))))
 ((.seq (.reg [⟨[], [], .cs .v (.n 1)⟩] [some 0, none, some 2, some 3, some 4, some 5, some 6, some 21, none, none, none, none, none, none, none, none, none, none, none, none, none])
 ((.seq (.reg [⟨[], [], .nop⟩, ⟨[], [], .nop⟩, ⟨[], [], .ca 45 [(.e 4), (.e 7)] 2⟩, ⟨[], [], .nop⟩] [some 0, none, some 2, some 3, none, some 5, some 6, some 21, none, none, none, none, none, none, none, none, none, none, none, none, none])
 ((.seq ((.seq (.reg [⟨[], [], .nop⟩, ⟨[], [], .bi .lss (.e 7) (.c (.n 0))⟩, ⟨[], [], .nop⟩, ⟨[], [(21, false)], .nop⟩, ⟨[], [(21, false)], .cy (.e 2)⟩, ⟨[], [(21, false)], .ca 44 [(.e 5), (.e 22)] 1⟩, ⟨[], [(21, false)], .un .not (.e 23)⟩, ⟨[], [], .pk (.e 21) (.c (.b true)) (.e 24)⟩, ⟨[], [], .nop⟩, ⟨[], [(25, false)], .cy (.e 6)⟩, ⟨[], [(25, false)], .cy (.e 3)⟩, ⟨[], [(25, false)], .bb .neq (.e 26) (.e 27)⟩, ⟨[], [], .pk (.e 25) (.c (.b true)) (.e 28)⟩] [some 0, none, some 2, some 3, none, some 5, none, none, none, none, none, none, none, none, none, some 29, none, none, none, none, none])
 (.cond 15 ((.seq (.reg [⟨[], [], .cs .v (.b false)⟩] [none, some 21, none, none, none, none, none, none, none, none, none, none, none, none, none, none, none, none, none, none, none])
  (.ret))) (.skip))))
 ((.seq (.reg [⟨[], [], .cs .v (.n 1)⟩] [some 0, none, some 2, some 3, none, some 5, none, none, some 21, none, none, none, none, none, none, none, none, none, none, none, none])
 ((.seq (.reg [⟨[], [], .nop⟩, ⟨[], [], .nop⟩, ⟨[], [], .ca 45 [(.e 5), (.e 8)] 2⟩, ⟨[], [], .nop⟩] [some 0, none, some 2, some 3, none, some 22, none, none, some 21, none, none, none, none, none, none, none, none, none, none, none, none])
 ((.seq (.reg [⟨[], [], .cs .v (.n 1)⟩] [some 0, none, some 2, some 3, none, some 5, none, none, some 8, some 21, none, none, none, none, none, none, none, none, none, none, none])
 ((.seq (.reg [⟨[], [], .nop⟩, ⟨[], [], .nop⟩, ⟨[], [], .ca 46 [(.e 5), (.e 9)] 1⟩, ⟨[], [], .nop⟩] [some 0, none, some 2, some 3, none, some 5, none, none, some 8, some 21, none, none, none, none, none, none, none, none, none, none, none])
 ((.seq ((.seq (.reg [⟨[], [], .nop⟩, ⟨[], [], .bi .lss (.e 9) (.c (.n 0))⟩] [some 0, none, some 2, some 3, none, some 5, none, none, some 8, some 9, none, none, none, none, none, none, some 21, none, none, none, none])
 (.cond 16 ((.seq (.reg [⟨[], [], .cs .v (.b false)⟩] [none, some 21, none, none, none, none, none, none, none, none, none, none, none, none, none, none, none, none, none, none, none])
  (.ret))) (.skip))))
 ((.seq ((.seq (.reg [⟨[], [], .nop⟩, ⟨[], [], .nop⟩, ⟨[], [], .bi .neq (.e 9) (.e 8)⟩] [some 0, none, some 2, some 3, none, some 5, none, none, some 8, none, none, none, none, none, none, none, none, some 21, none, none, none])
 (.cond 17 ((.seq (.reg [⟨[], [], .cs .v (.b false)⟩] [none, some 21, none, none, none, none, none, none, none, none, none, none, none, none, none, none, none, none, none, none, none])
  (.ret))) (.skip))))
 ((.seq (.reg [⟨[], [], .nop⟩, ⟨[], [], .ca 42 [(.e 0)] 1⟩, ⟨[], [], .ca 104 [(.e 21)] 2⟩, ⟨[], [], .nop⟩, ⟨[], [], .nop⟩, ⟨[], [], .nop⟩, ⟨[], [], .nop⟩, ⟨[], [], .nop⟩] [none, none, some 2, some 3, none, some 5, none, none, some 8, none, some 22, some 23, none, none, none, none, none, none, none, none, none])
 ((.seq ((.seq (.reg [⟨[], [], .nop⟩, ⟨[], [], .nop⟩, ⟨[], [], .ca 44 [(.e 10), (.e 2)] 1⟩, ⟨[], [], .un .not (.e 21)⟩, ⟨[], [], .nop⟩, ⟨[], [(22, false)], .cy (.e 11)⟩, ⟨[], [(22, false)], .cy (.e 3)⟩, ⟨[], [(22, false)], .bb .neq (.e 23) (.e 24)⟩, ⟨[], [], .pk (.e 22) (.c (.b true)) (.e 25)⟩] [none, none, none, none, none, some 5, none, none, some 8, none, none, none, none, none, none, none, none, none, some 26, none, none])
 (.cond 18 ((.seq (.reg [⟨[], [], .cs .v (.b false)⟩] [none, some 21, none, none, none, none, none, none, none, none, none, none, none, none, none, none, none, none, none, none, none])
  (.ret))) (.skip))))
 ((.seq (.reg [⟨[], [], .cs .v (.n 1)⟩] [none, none, none, none, none, some 5, none, none, some 8, some 21, none, none, none, none, none, none, none, none, none, none, none])
 ((.seq (.reg [⟨[], [], .nop⟩, ⟨[], [], .nop⟩, ⟨[], [], .ca 46 [(.e 5), (.e 9)] 1⟩, ⟨[], [], .nop⟩] [none, none, none, none, none, none, none, none, some 8, some 21, none, none, none, none, none, none, none, none, none, none, none])
 ((.seq ((.seq (.reg [⟨[], [], .nop⟩, ⟨[], [], .bi .lss (.e 9) (.c (.n 0))⟩] [none, none, none, none, none, none, none, none, some 8, some 9, none, none, none, none, none, none, none, none, none, some 21, none])
 (.cond 19 ((.seq (.reg [⟨[], [], .cs .v (.b false)⟩] [none, some 21, none, none, none, none, none, none, none, none, none, none, none, none, none, none, none, none, none, none, none])
  (.ret))) (.skip))))
 ((.seq ((.seq (.reg [⟨[], [], .nop⟩, ⟨[], [], .nop⟩, ⟨[], [], .bi .neq (.e 9) (.e 8)⟩] [none, none, none, none, none, none, none, none, none, none, none, none, none, none, none, none, none, none, none, none, some 21])
 (.cond 20 ((.seq (.reg [⟨[], [], .cs .v (.b false)⟩] [none, some 21, none, none, none, none, none, none, none, none, none, none, none, none, none, none, none, none, none, none, none])
  (.ret))) (.skip))))
 ((.seq (.reg [⟨[], [], .cs .v (.b true)⟩] [none, some 21, none, none, none, none, none, none, none, none, none, none, none, none, none, none, none, none, none, none, none])
 (.ret))))))))))))))))))))))))))))))))))))))))))))))⟩

end Go.Cat

namespace Go.Cat
/-- loop.example/g03401/impl.Contains231 -/
def ir_impl_Contains231 : IF := ⟨[], 1, 2, [1],
 (.seq (.reg [⟨[], [], .cs .v (.b false)⟩] [some 0, none])
 ((.seq (.reg [⟨[], [], .nop⟩, ⟨[], [], .ca 205 [(.e 0), (.c (.f 206 []))] 1⟩, ⟨[], [], .nop⟩] [none, some 2])
 (.ret))))⟩

/-- loop.example/g03401/impl.Contains231$1 -/
def ir_impl_Contains231_f1 : IF := ⟨[], 3, 4, [3],
 (.seq (.reg [⟨[], [], .cs .v (.b false)⟩] [some 0, some 1, some 2, none])
 ((.seq (.reg [⟨[], [], .nop⟩, ⟨[], [], .nop⟩, ⟨[], [], .bi .lss (.e 2) (.e 0)⟩, ⟨[], [], .nop⟩, ⟨[], [(4, true)], .cy (.e 0)⟩, ⟨[], [(4, true)], .cy (.e 1)⟩, ⟨[], [(4, true)], .bi .lss (.e 5) (.e 6)⟩, ⟨[], [], .pk (.e 4) (.e 7) (.c (.b false))⟩, ⟨[], [], .nop⟩] [none, none, none, some 8])
 (.ret))))⟩

/-- loop.example/g03401/impl.InversionsOf -/
def ir_impl_InversionsOf : IF := ⟨[], 1, 16, [1],
 (.seq (.reg [⟨[], [], .cs .v (.n 0)⟩] [some 0, none, none, none, none, none, none, none, none, none, none, none, none, none, none, none])
 ((.seq ((.seq (.reg [⟨[], [], .nop⟩, ⟨[], [], .ca 74 [(.e 0)] 1⟩, ⟨[], [], .un .not (.e 16)⟩] [some 0, none, none, none, none, none, some 17, none, none, none, none, none, none, none, none, none])
 (.cond 6 ((.seq (.reg [⟨[], [], .cs .v (.n (-1))⟩] [none, some 16, none, none, none, none, none, none, none, none, none, none, none, none, none, none])
  (.ret))) (.skip))))
 ((.seq (.reg [⟨[], [], .cs .v (.n 0)⟩] [some 0, none, some 16, none, none, none, none, none, none, none, none, none, none, none, none, none])
 ((.seq ((.seq (.reg [⟨[], [], .nop⟩, ⟨[], [], .ln (.e 0) []⟩, ⟨[], [], .cs .v (.n 0)⟩] [some 0, none, some 2, none, none, none, none, some 0, some 16, some 17, none, none, none, none, none, none])
 (.block 0 (.loop ((.seq (.reg [⟨[], [], .bi .lss (.e 9) (.e 8)⟩] [some 0, none, some 2, none, none, none, none, some 7, some 8, some 9, some 16, none, none, none, none, none])
   ((.seq (.cond 10 (.skip) (.exit 0))
   ((.seq (.block 1 ((.seq (.reg [⟨[], [], .nop⟩, ⟨[], [], .iy (.e 7) (.e 9)⟩, ⟨[], [], .nop⟩, ⟨[], [], .nop⟩, ⟨[], [], .nop⟩] [some 0, none, some 2, some 9, some 16, none, none, some 7, some 8, some 9, none, none, none, none, none, none])
    ((.seq (.reg [⟨[], [], .nop⟩, ⟨[], [], .nop⟩, ⟨[], [], .bi .add (.e 3) (.c (.n 1))⟩, ⟨[], [], .sb false (.e 0) (some (.e 16)) none⟩, ⟨[], [], .ln (.e 17) []⟩, ⟨[], [], .cs .v (.n 0)⟩] [some 0, none, some 2, none, some 4, none, none, some 7, some 8, some 9, none, some 17, some 18, some 19, none, none])
    (.block 2 (.loop ((.seq (.reg [⟨[], [], .bi .lss (.e 13) (.e 12)⟩] [some 0, none, some 2, none, some 4, none, none, some 7, some 8, some 9, none, some 11, some 12, some 13, some 16, none])
      ((.seq (.cond 14 (.skip) (.exit 2))
      ((.seq (.block 3 ((.seq (.reg [⟨[], [], .iy (.e 11) (.e 13)⟩, ⟨[], [], .nop⟩, ⟨[], [], .nop⟩] [some 0, none, some 2, none, some 4, some 16, none, some 7, some 8, some 9, none, some 11, some 12, some 13, none, none])
       ((.seq (.reg [⟨[], [], .nop⟩, ⟨[], [], .nop⟩, ⟨[], [], .bi .gtr (.e 4) (.e 5)⟩] [some 0, none, some 2, none, some 4, none, none, some 7, some 8, some 9, none, some 11, some 12, some 13, none, some 16])
       (.cond 15 (.reg [⟨[], [], .nop⟩, ⟨[], [], .bi .add (.e 2) (.c (.n 1))⟩, ⟨[], [], .nop⟩] [some 0, none, some 16, none, some 4, none, none, some 7, some 8, some 9, none, some 11, some 12, some 13, none, none]) (.skip)))))))
      (.reg [⟨[], [], .bi .add (.e 13) (.c (.n 1))⟩, ⟨[], [], .nop⟩] [some 0, none, some 2, none, some 4, none, none, some 7, some 8, some 9, none, some 11, some 12, some 16, none, none]))))))))))))))
   (.reg [⟨[], [], .bi .add (.e 9) (.c (.n 1))⟩, ⟨[], [], .nop⟩] [some 0, none, some 2, none, none, none, none, some 7, some 8, some 16, none, none, none, none, none, none])))))))))))
 ((.seq (.reg [⟨[], [], .nop⟩, ⟨[], [], .nop⟩] [none, some 2, none, none, none, none, none, none, none, none, none, none, none, none, none, none])
 (.ret))))))))))⟩

/-- loop.example/g03401/impl.IsPermutation -/
def ir_impl_IsPermutation : IF := ⟨[], 1, 10, [1],
 (.seq (.reg [⟨[], [], .cs .v (.b false)⟩] [some 0, none, none, none, none, none, none, none, none, none])
 ((.seq ((.seq (.reg [⟨[], [], .nop⟩, ⟨[], [], .ln (.e 0) []⟩, ⟨[], [], .bi .gtr (.e 10) (.c (.n 8))⟩] [some 0, none, none, none, some 11, none, none, none, none, none])
 (.cond 4 ((.seq (.reg [⟨[], [], .cs .v (.b false)⟩] [none, some 10, none, none, none, none, none, none, none, none])
  (.ret))) (.skip))))
 ((.seq (.reg [⟨[], [], .nop⟩, ⟨[], [], .ln (.e 0) []⟩, ⟨[], [], .mk (.b false) (.e 10) (.e 10)⟩, ⟨[], [], .nop⟩] [some 0, none, some 11, none, none, none, none, none, none, none])
 ((.seq ((.seq (.reg [⟨[], [], .nop⟩, ⟨[], [], .ln (.e 0) []⟩, ⟨[], [], .cs .v (.n 0)⟩] [some 0, none, some 2, none, none, some 0, some 10, some 11, none, none])
 (.block 0 (.loop ((.seq (.reg [⟨[], [], .bi .lss (.e 7) (.e 6)⟩] [some 0, none, some 2, none, none, some 5, some 6, some 7, some 10, none])
   ((.seq (.cond 8 (.skip) (.exit 0))
   ((.seq (.block 1 ((.seq (.reg [⟨[], [], .iy (.e 5) (.e 7)⟩, ⟨[], [], .nop⟩, ⟨[], [], .nop⟩] [some 0, none, some 2, some 10, none, some 5, some 6, some 7, none, none])
    ((.seq ((.seq (.reg [⟨[], [], .nop⟩, ⟨[], [], .nop⟩, ⟨[], [], .ln (.e 0) []⟩, ⟨[], [], .bi .sub (.e 10) (.c (.n 1))⟩, ⟨[], [], .ca 23 [(.e 3), (.c (.n 0)), (.e 11)] 1⟩, ⟨[], [], .un .not (.e 12)⟩, ⟨[], [], .nop⟩, ⟨[], [(13, false)], .nop⟩, ⟨[], [(13, false)], .cy (.e 3)⟩, ⟨[], [(13, false)], .ix (.e 2) [] (.e 14)⟩, ⟨[], [(13, false)], .nop⟩, ⟨[], [], .pk (.e 13) (.c (.b true)) (.e 15)⟩] [some 0, none, some 2, some 3, none, some 5, some 6, some 7, none, some 16])
    (.cond 9 ((.seq (.reg [⟨[], [], .cs .v (.b false)⟩] [none, some 10, none, none, none, none, none, none, none, none])
     (.ret))) (.skip))))
    (.reg [⟨[], [], .nop⟩, ⟨[], [], .nop⟩, ⟨[], [], .ix (.e 2) [] (.e 3)⟩, ⟨[], [], .up 2 [.e 3] (.c (.b true))⟩] [some 0, none, some 11, none, none, some 5, some 6, some 7, none, none]))))))
   (.reg [⟨[], [], .bi .add (.e 7) (.c (.n 1))⟩, ⟨[], [], .nop⟩] [some 0, none, some 2, none, none, some 5, some 6, some 10, none, none])))))))))))
 ((.seq (.reg [⟨[], [], .cs .v (.b true)⟩] [none, some 10, none, none, none, none, none, none, none, none])
 (.ret))))))))))⟩

/-- loop.example/g03401/impl.PathOfPermutation -/
def ir_impl_PathOfPermutation : IF := ⟨[], 1, 12, [1, 2],
 (.seq (.reg [⟨[], [], .cs .v (.s [])⟩, ⟨[], [], .cs .v (.b false)⟩] [some 0, none, none, none, none, none, none, none, none, none, none, none])
 ((.seq ((.seq (.reg [⟨[], [], .nop⟩, ⟨[], [], .ca 74 [(.e 0)] 1⟩, ⟨[], [], .un .not (.e 12)⟩, ⟨[], [], .nop⟩, ⟨[], [(13, false)], .nop⟩, ⟨[], [(13, false)], .ca 187 [(.e 0)] 1⟩, ⟨[], [], .pk (.e 13) (.c (.b true)) (.e 14)⟩] [some 0, none, none, none, none, none, none, some 15, none, none, none, none])
 (.cond 7 ((.seq (.reg [⟨[], [], .cs .v (.s [])⟩, ⟨[], [], .cs .v (.b false)⟩] [none, some 12, some 13, none, none, none, none, none, none, none, none, none])
  (.ret))) (.skip))))
 ((.seq (.reg [⟨[], [], .li (.o .v) []⟩, ⟨[], [], .nop⟩] [some 0, none, none, some 12, none, none, none, none, none, none, none, none])
 ((.seq (.reg [⟨[], [], .li (.o .v) []⟩, ⟨[], [], .nop⟩] [some 0, none, none, some 3, some 12, none, none, none, none, none, none, none])
 ((.seq (.reg [⟨[], [], .cs .v (.n 0)⟩] [some 0, none, none, some 3, some 4, some 12, none, none, none, none, none, none])
 ((.seq ((.seq (.reg [⟨[], [], .nop⟩, ⟨[], [], .ln (.e 0) []⟩, ⟨[], [], .cs .v (.n 0)⟩] [some 0, none, none, some 3, some 4, some 5, none, none, some 12, some 13, none, none])
 (.block 0 (.loop ((.seq (.reg [⟨[], [], .bi .lss (.e 9) (.e 8)⟩] [some 0, none, none, some 3, some 4, some 5, none, none, some 8, some 9, some 12, none])
   ((.seq (.cond 10 (.skip) (.exit 0))
   ((.seq (.block 1 ((.seq (.reg [⟨[], [], .nop⟩, ⟨[], [], .nop⟩] [some 0, none, none, some 3, some 4, some 5, some 9, none, some 8, some 9, none, none])
    ((.seq (.reg [⟨[], [], .nop⟩, ⟨[], [], .li (.o .v) [(.c (.y 117))]⟩, ⟨[], [], .ap false (.e 3) (.e 12)⟩, ⟨[], [], .nop⟩] [some 0, none, none, some 13, some 4, some 5, some 6, none, some 8, some 9, none, none])
    ((.seq (.reg [⟨[], [], .nop⟩, ⟨[], [], .nop⟩, ⟨[], [], .li (.o .v) [(.e 6)]⟩, ⟨[], [], .ap false (.e 4) (.e 12)⟩, ⟨[], [], .nop⟩] [some 0, none, none, some 3, some 13, some 5, none, none, some 8, some 9, none, none])
    (.block 2 (.loop ((.seq ((.seq (.reg [⟨[], [], .nop⟩, ⟨[], [], .ln (.e 4) []⟩, ⟨[], [], .bi .gtr (.e 12) (.c (.n 0))⟩, ⟨[], [], .nop⟩, ⟨[], [(13, true)], .nop⟩, ⟨[], [(13, true)], .nop⟩, ⟨[], [(13, true)], .nop⟩, ⟨[], [(13, true)], .ln (.e 4) []⟩, ⟨[], [(13, true)], .bi .sub (.e 14) (.c (.n 1))⟩, ⟨[], [(13, true)], .ix (.e 4) [] (.e 15)⟩, ⟨[], [(13, true)], .nop⟩, ⟨[], [(13, true)], .iy (.e 0) (.e 16)⟩, ⟨[], [(13, true)], .nop⟩, ⟨[], [(13, true)], .cy (.e 5)⟩, ⟨[], [(13, true)], .bi .eql (.e 17) (.e 18)⟩, ⟨[], [], .pk (.e 13) (.e 19) (.c (.b false))⟩] [some 0, none, none, some 3, some 4, some 5, none, none, some 8, some 9, none, some 20])
      (.cond 11 (.skip) (.exit 2))))
      (.block 3 ((.seq (.reg [⟨[], [], .nop⟩, ⟨[], [], .li (.o .v) [(.c (.y 100))]⟩, ⟨[], [], .ap false (.e 3) (.e 12)⟩, ⟨[], [], .nop⟩] [some 0, none, none, some 13, some 4, some 5, none, none, some 8, some 9, none, none])
       ((.seq (.reg [⟨[], [], .nop⟩, ⟨[], [], .nop⟩, ⟨[], [], .ln (.e 4) []⟩, ⟨[], [], .bi .sub (.e 12) (.c (.n 1))⟩, ⟨[], [], .sb true (.e 4) none (some (.e 13))⟩, ⟨[], [], .nop⟩] [some 0, none, none, some 3, some 14, some 5, none, none, some 8, some 9, none, none])
       (.reg [⟨[], [], .nop⟩, ⟨[], [], .bi .add (.e 5) (.c (.n 1))⟩, ⟨[], [], .nop⟩] [some 0, none, none, some 3, some 4, some 12, none, none, some 8, some 9, none, none])))))))))))))))))
   (.reg [⟨[], [], .bi .add (.e 9) (.c (.n 1))⟩, ⟨[], [], .nop⟩] [some 0, none, none, some 3, some 4, some 5, none, none, some 8, some 12, none, none])))))))))))
 ((.seq (.reg [⟨[], [], .nop⟩, ⟨[], [], .bs (.e 3)⟩, ⟨[], [], .nop⟩, ⟨[], [], .cs .v (.b true)⟩] [none, some 12, some 13, none, none, none, none, none, none, none, none, none])
 (.ret))))))))))))))⟩

end Go.Cat

