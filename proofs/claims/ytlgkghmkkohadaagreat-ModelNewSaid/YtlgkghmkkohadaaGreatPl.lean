/-
  The plans of the regions that draw their order, printed by a program; they go with every order. No condition.
-/
import Derived.Test.YtlgkghmkkohadaaGreatFb
import Derived.Test.YtlgkghmkkohadaaGreatFacts
import Derived.Test.YtlgkghmkkohadaaGreatFq
namespace Go.Proofs.YtlgkghmkkohadaaGreat.V
def q7_5_0 : Plan := (.eff 30 (.pure 31 (.pure 32 .done)))
def q7_5_1 : Plan := (.eff 21 (.pure 22 (.pure 23 (.pure 24 (.pure 25 (.read 27 (.alt (.eff 26 (.eff 28 (.pure 29 q7_5_0))) (.eff 28 (.pure 29 (.eff 26 q7_5_0))))))))))
def q7_5_2 : Plan := (.eff 12 (.pure 13 (.pure 14 (.pure 15 (.pure 16 (.pure 18 (.alt (.eff 17 (.eff 19 (.pure 20 q7_5_1))) (.eff 19 (.pure 20 (.eff 17 q7_5_1))))))))))
def q7_5_3 : Plan := (.eff 6 (.pure 7 (.pure 8 (.pure 9 (.alt (.eff 10 (.eff 11 q7_5_2)) (.eff 11 (.eff 10 q7_5_2)))))))
def q7_5_4 : Plan := (.eff 5 q7_5_3)
def q7_5_5 : Plan := (.eff 3 (.pure 4 q7_5_3))
def q7_5_6 : Plan := (.eff 1 q7_5_3)
def pl7 : List (Nat × Plan) := [(5, (.pure 0 (.pure 2 (.alt (.eff 1 (.alt (.eff 3 (.pure 4 q7_5_4)) (.eff 5 q7_5_5))) (.alt (.eff 3 (.pure 4 (.alt (.eff 1 q7_5_4) (.eff 5 q7_5_6)))) (.eff 5 (.alt (.eff 1 q7_5_5) (.eff 3 (.pure 4 q7_5_6))))))))),
  (10, (.pure 0 (.pure 2 (.read 1 (.eff 3 (.eff 4 (.pure 5 (.pure 6 (.pure 7 (.pure 8 (.pure 9 (.eff 10 (.pure 11 (.pure 12 (.pure 13 (.pure 14 (.read 16 (.alt (.eff 15 (.eff 17 (.pure 18 (.eff 19 (.pure 20 (.pure 21 (.pure 22 (.pure 23 (.pure 26 (.eff 24 (.eff 25 (.eff 27 (.pure 28 (.pure 29 (.pure 30 (.pure 31 (.pure 33 (.eff 32 (.eff 34 (.pure 35 (.pure 36 .done))))))))))))))))))))) (.eff 17 (.pure 18 (.eff 15 (.eff 19 (.pure 20 (.pure 21 (.pure 22 (.pure 23 (.pure 26 (.eff 24 (.eff 25 (.eff 27 (.pure 28 (.pure 29 (.pure 30 (.pure 31 (.pure 33 (.eff 32 (.eff 34 (.pure 35 (.pure 36 .done)))))))))))))))))))))))))))))))))))))))]
def pl8 : List (Nat × Plan) := [(1, (.pure 0 (.pure 2 (.read 3 (.eff 1 (.pure 4 (.pure 5 (.pure 6 (.read 8 (.eff 7 (.eff 9 (.eff 10 (.pure 11 (.pure 12 .done)))))))))))))),
  (10, (.pure 2 (.pure 3 (.read 0 (.read 1 (.read 4 (.eff 5 (.eff 6 (.pure 7 (.pure 8 (.pure 9 (.pure 10 (.pure 11 .done)))))))))))))]
def pl9 : List (Nat × Plan) := [(1, (.pure 1 (.pure 3 (.read 0 (.read 2 (.read 4 (.pure 5 (.eff 6 (.pure 7 (.eff 8 .done))))))))))]
def pl12 : List (Nat × Plan) := [(5, (.pure 0 (.pure 3 (.read 1 (.read 2 (.read 4 (.alt (.eff 5 (.pure 6 (.eff 7 (.eff 8 .done)))) (.eff 7 (.eff 5 (.pure 6 (.eff 8 .done))))))))))),
  (7, (.pure 5 (.read 0 (.read 1 (.pure 2 (.pure 3 (.read 4 (.eff 6 (.pure 7 (.pure 8 (.eff 9 .done)))))))))))]
def pl15 : List (Nat × Plan) := [(6, (.pure 0 (.pure 2 (.pure 5 (.pure 7 (.read 1 (.pure 3 (.read 4 (.read 6 (.pure 8 (.read 9 (.eff 10 (.pure 11 .done)))))))))))))]
def pl20 : List (Nat × Plan) := [(4, (.pure 0 (.pure 1 (.pure 2 (.pure 5 (.pure 6 (.pure 7 (.pure 10 (.pure 11 (.pure 12 (.read 3 (.read 8 (.read 13 (.eff 4 (.eff 9 (.eff 14 (.pure 15 (.eff 16 (.pure 17 (.eff 18 (.pure 19 (.eff 20 .done))))))))))))))))))))))]
def pl28 : List (Nat × Plan) := [(6, (.pure 0 (.pure 1 (.pure 2 (.pure 4 (.pure 5 (.pure 6 (.read 3 (.read 7 (.pure 8 .done))))))))))]
def pl31 : List (Nat × Plan) := [(5, (.pure 1 (.pure 3 (.pure 7 (.read 0 (.read 2 (.pure 4 (.pure 5 (.read 6 (.read 8 (.eff 9 .done)))))))))))]
def pl33 : List (Nat × Plan) := [(10, (.pure 0 (.pure 1 (.pure 4 (.pure 6 (.read 2 (.read 5 (.read 7 (.eff 3 (.pure 8 (.eff 9 .done)))))))))))]
def pl36 : List (Nat × Plan) := [(4, (.pure 0 (.pure 1 (.pure 2 (.pure 5 (.pure 7 (.read 3 (.read 6 (.read 8 (.eff 4 (.eff 9 (.pure 10 (.pure 11 (.pure 12 (.pure 13 (.pure 14 .done)))))))))))))))),
  (16, (.pure 0 (.pure 1 (.pure 3 (.pure 4 (.pure 5 (.pure 7 (.read 2 (.read 6 (.alt (.eff 8 (.alt (.eff 9 (.eff 10 (.eff 11 .done))) (.eff 10 (.eff 9 (.eff 11 .done))))) (.eff 10 (.eff 8 (.eff 9 (.eff 11 .done))))))))))))))]
def pl39 : List (Nat × Plan) := [(1, (.read 0 (.read 1 (.read 2 (.pure 3 (.pure 4 (.read 5 (.eff 6 (.pure 7 (.pure 8 .done))))))))))]
def pl40 : List (Nat × Plan) := [(1, (.pure 0 (.pure 1 (.pure 3 (.pure 5 (.pure 6 (.pure 7 (.pure 8 (.read 2 (.read 4 (.read 9 (.eff 10 (.pure 11 .done)))))))))))))]
def pl41 : List (Nat × Plan) := [(1, (.pure 0 (.pure 1 (.pure 3 (.pure 4 (.pure 5 (.read 2 (.read 6 (.eff 7 (.pure 8 .done)))))))))),
  (2, (.pure 0 (.pure 1 (.pure 2 (.pure 4 (.read 3 (.read 5 (.eff 6 (.pure 7 (.pure 8 (.pure 9 (.pure 10 (.pure 11 .done))))))))))))),
  (10, (.pure 0 (.pure 1 (.pure 2 (.pure 4 (.pure 6 (.pure 9 (.pure 10 (.pure 11 (.pure 12 (.pure 14 (.pure 17 (.pure 18 (.pure 19 (.read 3 (.read 5 (.read 7 (.read 8 (.read 13 (.read 15 (.read 20 (.eff 16 (.pure 21 (.eff 22 .done)))))))))))))))))))))))),
  (18, (.pure 0 (.pure 1 (.pure 2 (.pure 4 (.pure 5 (.pure 6 (.read 3 (.read 7 (.eff 8 (.eff 9 (.pure 10 (.pure 11 (.eff 12 .done)))))))))))))),
  (23, (.pure 0 (.pure 1 (.pure 2 (.pure 3 (.pure 5 (.pure 6 (.pure 7 (.pure 8 (.pure 9 (.read 4 (.read 10 (.eff 11 (.eff 12 (.eff 13 (.pure 14 (.pure 15 (.eff 16 .done)))))))))))))))))),
  (26, (.pure 0 (.pure 1 (.pure 2 (.pure 4 (.read 3 (.read 5 (.read 6 (.eff 7 (.eff 8 .done)))))))))),
  (28, (.pure 0 (.pure 1 (.pure 2 (.pure 4 (.read 3 (.read 5 (.eff 6 (.pure 7 (.eff 8 .done)))))))))),
  (29, (.pure 0 (.pure 1 (.pure 2 (.pure 4 (.read 3 (.read 5 (.read 6 (.eff 7 .done))))))))),
  (46, (.pure 0 (.pure 1 (.pure 2 (.pure 4 (.read 3 (.read 5 (.eff 6 .done))))))))]
def pl43 : List (Nat × Plan) := [(14, (.pure 0 (.pure 1 (.pure 2 (.pure 3 (.pure 5 (.pure 7 (.read 4 (.read 6 (.pure 8 (.pure 9 (.read 10 (.pure 11 (.eff 12 .done))))))))))))))]
def pl46 : List (Nat × Plan) := [(9, (.pure 0 (.pure 2 (.pure 3 (.pure 4 (.pure 5 (.read 6 (.eff 1 (.pure 7 (.pure 8 .done))))))))))]
def pl48 : List (Nat × Plan) := [(4, (.pure 0 (.pure 2 (.pure 4 (.pure 7 (.pure 9 (.read 1 (.read 5 (.read 8 (.read 10 (.alt (.eff 3 (.eff 6 (.pure 11 (.eff 12 .done)))) (.eff 6 (.eff 3 (.pure 11 (.eff 12 .done)))))))))))))))]
def pl49 : List (Nat × Plan) := [(6, (.pure 0 (.pure 1 (.pure 2 (.pure 4 (.pure 5 (.pure 6 (.read 3 (.read 7 (.pure 8 .done))))))))))]
def pl54 : List (Nat × Plan) := [(1, (.pure 1 (.read 0 (.read 2 (.pure 3 (.pure 4 (.read 5 (.eff 6 (.pure 7 (.pure 8 .done))))))))))]
def pl56 : List (Nat × Plan) := [(8, (.pure 0 (.pure 2 (.pure 3 (.pure 4 (.pure 6 (.pure 7 (.pure 8 (.pure 9 (.pure 12 (.pure 13 (.pure 14 (.pure 15 (.pure 19 (.pure 20 (.pure 21 (.read 1 (.read 5 (.read 10 (.read 16 (.read 22 (.eff 11 (.eff 17 (.pure 18 (.pure 23 (.eff 24 (.eff 25 (.eff 26 (.pure 27 (.eff 28 .done))))))))))))))))))))))))))))))]
def pl60 : List (Nat × Plan) := [(6, (.pure 0 (.pure 1 (.pure 2 (.pure 3 (.pure 4 (.pure 5 (.pure 6 (.pure 7 (.pure 9 (.pure 10 (.pure 11 (.read 8 (.read 12 (.pure 13 (.pure 14 .done)))))))))))))))),
  (8, (.pure 0 (.pure 1 (.pure 2 (.pure 5 (.pure 6 (.pure 7 (.read 3 (.eff 4 (.eff 8 (.pure 9 .done)))))))))))]
def pl64 : List (Nat × Plan) := [(14, (.pure 0 (.pure 1 (.pure 2 (.pure 3 (.read 4 (.pure 5 (.pure 6 (.pure 7 (.pure 8 (.pure 9 (.pure 11 (.pure 12 (.pure 13 (.read 10 (.read 14 (.pure 15 (.pure 16 .done)))))))))))))))))),
  (17, (.pure 0 (.pure 1 (.pure 2 (.pure 4 (.pure 7 (.pure 8 (.pure 9 (.pure 11 (.pure 18 (.read 3 (.pure 5 (.read 6 (.pure 21 (.pure 22 (.read 10 (.pure 12 (.read 13 (.pure 14 (.pure 15 (.pure 16 (.read 17 (.eff 19 (.eff 20 (.pure 23 (.eff 24 .done)))))))))))))))))))))))))),
  (18, (.pure 0 (.pure 1 (.pure 2 (.pure 4 (.pure 7 (.pure 8 (.pure 9 (.pure 11 (.pure 18 (.read 3 (.pure 5 (.read 6 (.pure 21 (.pure 22 (.read 10 (.pure 12 (.read 13 (.pure 14 (.pure 15 (.pure 16 (.read 17 (.eff 19 (.eff 20 (.pure 23 (.eff 24 .done))))))))))))))))))))))))))]
def pl76 : List (Nat × Plan) := [(6, (.pure 0 (.pure 1 (.pure 2 (.pure 4 (.pure 7 (.pure 8 (.pure 9 (.pure 10 (.pure 12 (.pure 19 (.read 3 (.pure 5 (.read 6 (.pure 21 (.pure 22 (.read 11 (.pure 13 (.read 14 (.pure 15 (.pure 16 (.pure 17 (.read 18 (.eff 20 (.pure 23 (.eff 24 .done)))))))))))))))))))))))))),
  (7, (.pure 0 (.pure 1 (.pure 2 (.pure 4 (.pure 7 (.pure 8 (.pure 9 (.pure 10 (.pure 12 (.pure 19 (.read 3 (.pure 5 (.read 6 (.pure 21 (.pure 22 (.read 11 (.pure 13 (.read 14 (.pure 15 (.pure 16 (.pure 17 (.read 18 (.eff 20 (.pure 23 (.eff 24 .done))))))))))))))))))))))))))]
def pl78 : List (Nat × Plan) := [(1, (.pure 0 (.pure 1 (.pure 3 (.pure 4 (.pure 5 (.pure 6 (.read 2 (.read 7 (.pure 8 (.pure 9 (.pure 10 (.pure 11 (.eff 12 .done))))))))))))))]
def pl82 : List (Nat × Plan) := [(6, (.pure 0 (.pure 1 (.pure 2 (.pure 4 (.pure 5 (.pure 6 (.read 3 (.read 7 (.pure 8 .done))))))))))]
def pl98 : List (Nat × Plan) := [(11, (.pure 0 (.pure 1 (.pure 2 (.pure 4 (.pure 7 (.pure 8 (.pure 9 (.read 3 (.pure 5 (.read 6 (.read 10 (.pure 11 (.pure 12 (.eff 13 .done))))))))))))))),
  (24, (.pure 0 (.pure 1 (.pure 2 (.pure 4 (.pure 5 (.read 3 (.eff 6 (.pure 7 (.read 8 (.pure 9 .done))))))))))),
  (25, (.pure 0 (.pure 1 (.pure 2 (.pure 4 (.pure 5 (.pure 6 (.read 3 (.read 7 (.pure 8 .done))))))))))]
def pl100 : List (Nat × Plan) := [(4, (.pure 0 (.pure 1 (.pure 2 (.pure 6 (.pure 7 (.pure 8 (.read 3 (.pure 4 (.pure 5 (.read 9 (.pure 10 (.pure 11 .done))))))))))))),
  (7, (.pure 0 (.pure 1 (.pure 3 (.pure 4 (.pure 5 (.read 6 (.pure 7 (.eff 2 (.pure 8 (.eff 9 .done)))))))))))]
def pl101 : List (Nat × Plan) := [(6, (.pure 0 (.pure 1 (.pure 2 (.pure 4 (.pure 5 (.pure 6 (.read 3 (.read 7 (.pure 8 .done))))))))))]
def pl110 : List (Nat × Plan) := [(4, (.pure 0 (.pure 1 (.pure 2 (.pure 3 (.pure 6 (.pure 7 (.pure 8 (.pure 9 (.read 4 (.pure 5 (.read 10 (.pure 11 (.pure 12 (.pure 13 .done))))))))))))))),
  (17, (.pure 0 (.pure 1 (.pure 2 (.pure 3 (.pure 4 (.pure 6 (.pure 7 (.pure 8 (.pure 9 (.read 5 (.read 10 (.pure 11 (.eff 12 .done))))))))))))))]
def pl112 : List (Nat × Plan) := [(17, (.pure 0 (.pure 1 (.pure 2 (.pure 3 (.pure 4 (.pure 5 (.pure 6 (.pure 8 (.pure 9 (.pure 10 (.read 7 (.read 11 (.eff 12 (.pure 13 (.pure 14 .done))))))))))))))))]
def pl116 : List (Nat × Plan) := [(1, (.pure 0 (.pure 1 (.pure 2 (.pure 4 (.pure 6 (.pure 7 (.pure 8 (.read 3 (.read 9 (.pure 10 (.pure 11 (.eff 5 (.pure 12 (.pure 13 .done))))))))))))))),
  (2, (.pure 0 (.pure 1 (.pure 2 (.pure 4 (.read 3 (.pure 5 (.read 6 (.pure 7 (.pure 8 (.pure 9 (.pure 10 (.pure 11 (.pure 13 (.pure 14 (.pure 15 (.pure 17 (.pure 26 (.read 12 (.read 16 (.pure 18 (.read 19 (.pure 20 (.pure 21 (.read 22 (.pure 23 (.pure 24 (.read 25 (.pure 27 (.pure 28 .done))))))))))))))))))))))))))))))]
def pl122 : List (Nat × Plan) := [(4, (.pure 0 (.pure 1 (.pure 2 (.pure 3 (.pure 4 (.pure 5 (.pure 6 (.pure 8 (.pure 9 (.pure 10 (.pure 11 (.read 7 (.read 12 (.eff 13 (.pure 14 .done)))))))))))))))),
  (6, (.pure 0 (.pure 1 (.pure 2 (.pure 3 (.pure 4 (.pure 5 (.pure 6 (.pure 7 (.pure 8 (.pure 10 (.pure 11 (.pure 12 (.read 9 (.read 13 (.pure 14 (.eff 15 (.pure 16 (.eff 17 .done)))))))))))))))))))]
def pl123 : List (Nat × Plan) := [(10, (.pure 0 (.pure 1 (.pure 2 (.pure 3 (.pure 4 (.pure 5 (.pure 6 (.pure 7 (.pure 8 (.pure 9 (.pure 10 (.pure 12 (.pure 13 (.pure 14 (.read 11 (.read 15 (.pure 16 (.eff 17 (.pure 18 (.eff 19 .done)))))))))))))))))))))]
def pl124 : List (Nat × Plan) := [(10, (.pure 0 (.pure 1 (.pure 2 (.pure 3 (.pure 4 (.pure 5 (.pure 6 (.pure 7 (.pure 8 (.pure 9 (.pure 10 (.pure 12 (.pure 13 (.pure 14 (.read 11 (.read 15 (.pure 16 (.eff 17 (.pure 18 (.eff 19 .done)))))))))))))))))))))]
def pl126 : List (Nat × Plan) := [(3, (.pure 0 (.pure 1 (.pure 2 (.pure 3 (.pure 4 (.pure 5 (.pure 6 (.pure 8 (.pure 9 (.pure 10 (.read 7 (.read 11 (.pure 12 (.eff 13 (.pure 14 (.eff 15 .done)))))))))))))))))]
def pl127 : List (Nat × Plan) := [(5, (.pure 0 (.pure 1 (.pure 2 (.pure 3 (.pure 4 (.pure 5 (.pure 6 (.pure 8 (.pure 9 (.pure 10 (.pure 11 (.read 7 (.read 12 (.eff 13 (.pure 14 (.pure 15 .done))))))))))))))))),
  (11, (.pure 0 (.pure 1 (.pure 2 (.pure 3 (.pure 4 (.pure 5 (.pure 6 (.pure 7 (.pure 8 (.pure 10 (.pure 11 (.pure 12 (.read 9 (.read 13 (.pure 14 (.eff 15 (.pure 16 (.eff 17 .done))))))))))))))))))),
  (16, (.pure 0 (.pure 1 (.pure 2 (.pure 4 (.pure 5 (.pure 6 (.pure 7 (.read 3 (.read 8 (.eff 9 (.pure 10 .done)))))))))))),
  (17, (.pure 0 (.pure 1 (.pure 2 (.pure 3 (.pure 4 (.pure 5 (.pure 6 (.pure 7 (.pure 8 (.pure 10 (.pure 11 (.pure 12 (.read 9 (.read 13 (.pure 14 (.eff 15 (.pure 16 (.eff 17 .done))))))))))))))))))),
  (22, (.pure 0 (.pure 1 (.pure 2 (.pure 4 (.pure 5 (.pure 6 (.pure 7 (.read 3 (.read 8 (.eff 9 (.pure 10 .done)))))))))))),
  (23, (.pure 0 (.pure 1 (.pure 2 (.pure 3 (.pure 4 (.pure 5 (.pure 6 (.pure 7 (.pure 8 (.pure 10 (.pure 11 (.pure 12 (.read 9 (.read 13 (.pure 14 (.eff 15 (.pure 16 (.eff 17 .done)))))))))))))))))))]
def pl129 : List (Nat × Plan) := [(1, (.pure 0 (.pure 1 (.pure 2 (.pure 3 (.pure 4 (.pure 5 (.pure 6 (.pure 8 (.pure 9 (.pure 10 (.read 7 (.read 11 (.pure 12 (.eff 13 (.pure 14 (.eff 15 .done))))))))))))))))),
  (3, (.pure 0 (.pure 1 (.pure 2 (.pure 3 (.pure 4 (.pure 5 (.pure 6 (.pure 8 (.pure 9 (.pure 10 (.read 7 (.read 11 (.eff 12 (.pure 13 (.pure 14 .done)))))))))))))))),
  (5, (.pure 0 (.pure 1 (.pure 2 (.pure 3 (.pure 4 (.pure 5 (.pure 6 (.pure 8 (.pure 9 (.pure 10 (.read 7 (.read 11 (.eff 12 (.pure 13 .done))))))))))))))),
  (8, (.pure 0 (.pure 1 (.pure 2 (.pure 3 (.pure 4 (.pure 5 (.pure 6 (.pure 8 (.pure 9 (.pure 10 (.read 7 (.read 11 (.pure 12 (.eff 13 (.pure 14 (.eff 15 .done)))))))))))))))))]
def pl130 : List (Nat × Plan) := [(1, (.pure 0 (.pure 1 (.pure 2 (.pure 3 (.pure 4 (.pure 5 (.pure 6 (.pure 8 (.pure 9 (.pure 10 (.read 7 (.read 11 (.pure 12 (.eff 13 (.pure 14 (.eff 15 .done))))))))))))))))),
  (3, (.pure 0 (.pure 1 (.pure 2 (.pure 3 (.pure 4 (.pure 5 (.pure 6 (.pure 8 (.pure 9 (.pure 10 (.read 7 (.read 11 (.eff 12 (.pure 13 .done))))))))))))))),
  (5, (.pure 0 (.pure 1 (.pure 2 (.pure 3 (.pure 4 (.pure 5 (.pure 6 (.pure 8 (.pure 9 (.pure 10 (.read 7 (.read 11 (.eff 12 (.pure 13 (.pure 14 .done)))))))))))))))),
  (8, (.pure 0 (.pure 1 (.pure 2 (.pure 3 (.pure 4 (.pure 5 (.pure 6 (.pure 8 (.pure 9 (.pure 10 (.read 7 (.read 11 (.pure 12 (.eff 13 (.pure 14 (.eff 15 .done))))))))))))))))),
  (10, (.pure 0 (.pure 1 (.pure 2 (.pure 3 (.pure 4 (.pure 5 (.pure 6 (.pure 8 (.pure 9 (.pure 10 (.read 7 (.read 11 (.pure 12 (.eff 13 (.pure 14 (.eff 15 .done))))))))))))))))),
  (13, (.pure 0 (.pure 1 (.pure 2 (.pure 3 (.pure 4 (.pure 5 (.pure 6 (.pure 8 (.pure 9 (.pure 10 (.read 7 (.read 11 (.eff 12 (.pure 13 .done))))))))))))))),
  (15, (.pure 0 (.pure 1 (.pure 2 (.pure 3 (.pure 4 (.pure 5 (.pure 6 (.pure 8 (.pure 9 (.pure 10 (.read 7 (.read 11 (.eff 12 (.pure 13 (.pure 14 .done)))))))))))))))),
  (18, (.pure 0 (.pure 1 (.pure 2 (.pure 3 (.pure 4 (.pure 5 (.pure 6 (.pure 8 (.pure 9 (.pure 10 (.read 7 (.read 11 (.pure 12 (.eff 13 (.pure 14 (.eff 15 .done))))))))))))))))),
  (21, (.pure 0 (.pure 1 (.pure 2 (.pure 3 (.pure 4 (.pure 5 (.pure 6 (.pure 8 (.pure 9 (.pure 10 (.read 7 (.read 11 (.pure 12 (.eff 13 (.pure 14 (.eff 15 .done)))))))))))))))))]
def pl137 : List (Nat × Plan) := [(3, (.pure 0 (.pure 1 (.pure 2 (.pure 3 (.pure 4 (.pure 5 (.pure 6 (.pure 7 (.pure 8 (.pure 9 (.pure 11 (.pure 12 (.pure 13 (.pure 14 (.pure 15 (.pure 16 (.read 10 (.read 17 (.eff 18 (.pure 19 .done))))))))))))))))))))),
  (5, (.pure 0 (.pure 1 (.pure 2 (.pure 3 (.pure 4 (.pure 6 (.pure 7 (.pure 8 (.pure 9 (.pure 10 (.read 5 (.read 11 (.eff 12 (.pure 13 .done))))))))))))))),
  (6, (.pure 0 (.pure 1 (.pure 2 (.pure 3 (.pure 4 (.pure 5 (.pure 6 (.pure 7 (.pure 8 (.pure 9 (.pure 10 (.pure 11 (.pure 12 (.pure 14 (.pure 15 (.pure 16 (.pure 17 (.pure 18 (.read 13 (.read 19 (.pure 20 (.eff 21 (.pure 22 (.eff 23 .done)))))))))))))))))))))))))]
def pl139 : List (Nat × Plan) := [(1, (.pure 0 (.pure 1 (.pure 3 (.pure 4 (.read 2 (.read 5 (.pure 6 (.pure 7 (.pure 8 (.eff 9 .done))))))))))),
  (2, (.pure 0 (.pure 1 (.pure 3 (.pure 4 (.read 2 (.read 5 (.pure 6 (.pure 7 (.pure 8 (.eff 9 .done))))))))))),
  (3, (.pure 0 (.pure 1 (.pure 3 (.pure 4 (.read 2 (.read 5 (.pure 6 (.pure 7 (.pure 8 (.eff 9 .done)))))))))))]
def pl145 : List (Nat × Plan) := [(1, (.pure 0 (.pure 1 (.pure 2 (.pure 4 (.pure 5 (.pure 6 (.read 3 (.read 7 (.eff 8 .done))))))))))]
def plTbl : Tr (List (Nat × Plan)) := (.n none (.n none (.n none (.n (some pl7) (.n (some pl15) (.n (some pl31) (.n none (.n (some pl127) .e .e) .e) .e) .e) (.n none (.n (some pl39) .e .e) .e)) (.n none .e (.n none (.n (some pl43) (.n none (.n (some pl139) .e .e) .e) .e) (.n none .e (.n (some pl123) .e .e))))) (.n none (.n (some pl9) (.n none (.n (some pl33) (.n none (.n (some pl129) .e .e) .e) .e) (.n (some pl49) (.n none (.n (some pl145) .e .e) .e) .e)) (.n none (.n (some pl41) (.n none (.n (some pl137) .e .e) .e) .e) .e)) (.n none (.n none (.n none .e (.n (some pl101) .e .e)) .e) .e))) (.n none (.n none (.n (some pl8) (.n none (.n none (.n (some pl64) .e .e) .e) (.n (some pl48) .e (.n (some pl112) .e .e))) (.n none (.n (some pl40) .e .e) (.n (some pl56) .e .e))) (.n (some pl12) (.n (some pl20) (.n (some pl36) .e (.n (some pl100) .e .e)) (.n none .e (.n (some pl116) .e .e))) (.n (some pl28) (.n none (.n (some pl76) .e .e) .e) (.n (some pl60) .e (.n (some pl124) .e .e))))) (.n none (.n none (.n none (.n none (.n none (.n (some pl130) .e .e) .e) (.n (some pl98) .e .e)) (.n none (.n (some pl82) .e .e) .e)) (.n none .e (.n none .e (.n (some pl122) .e .e)))) (.n none (.n none .e (.n (some pl54) .e .e)) (.n none (.n (some pl46) (.n (some pl78) .e .e) (.n (some pl110) .e .e)) (.n none .e (.n (some pl126) .e .e)))))))
theorem ok_q7_5_0 : partOk Tryz.prog 7 5 [] 3 [true, true, true, true, true, true, true, true, true, true, true, true, true, true, true, true, true, true, true, true, true, true, true, true, true, true, true, true, true, true, false, false, false] q7_5_0 = true := by decide +kernel
def F_q7_5_0 : PF := (3, [true, true, true, true, true, true, true, true, true, true, true, true, true, true, true, true, true, true, true, true, true, true, true, true, true, true, true, true, true, true, false, false, false], q7_5_0) :: []
theorem all_q7_5_0 : AllOk Tryz.prog 7 5 F_q7_5_0 := allOk_cons allOk_nil ok_q7_5_0
theorem ok_q7_5_1 : partOk Tryz.prog 7 5 F_q7_5_0 12 [true, true, true, true, true, true, true, true, true, true, true, true, true, true, true, true, true, true, true, true, true, false, false, false, false, false, false, false, false, false, false, false, false] q7_5_1 = true := by decide +kernel
def F_q7_5_1 : PF := (12, [true, true, true, true, true, true, true, true, true, true, true, true, true, true, true, true, true, true, true, true, true, false, false, false, false, false, false, false, false, false, false, false, false], q7_5_1) :: F_q7_5_0
theorem all_q7_5_1 : AllOk Tryz.prog 7 5 F_q7_5_1 := allOk_cons all_q7_5_0 ok_q7_5_1
theorem ok_q7_5_2 : partOk Tryz.prog 7 5 F_q7_5_1 21 [true, true, true, true, true, true, true, true, true, true, true, true, false, false, false, false, false, false, false, false, false, false, false, false, false, false, false, false, false, false, false, false, false] q7_5_2 = true := by decide +kernel
def F_q7_5_2 : PF := (21, [true, true, true, true, true, true, true, true, true, true, true, true, false, false, false, false, false, false, false, false, false, false, false, false, false, false, false, false, false, false, false, false, false], q7_5_2) :: F_q7_5_1
theorem all_q7_5_2 : AllOk Tryz.prog 7 5 F_q7_5_2 := allOk_cons all_q7_5_1 ok_q7_5_2
theorem ok_q7_5_3 : partOk Tryz.prog 7 5 F_q7_5_2 27 [true, true, true, true, true, true, false, false, false, false, false, false, false, false, false, false, false, false, false, false, false, false, false, false, false, false, false, false, false, false, false, false, false] q7_5_3 = true := by decide +kernel
def F_q7_5_3 : PF := (27, [true, true, true, true, true, true, false, false, false, false, false, false, false, false, false, false, false, false, false, false, false, false, false, false, false, false, false, false, false, false, false, false, false], q7_5_3) :: F_q7_5_2
theorem all_q7_5_3 : AllOk Tryz.prog 7 5 F_q7_5_3 := allOk_cons all_q7_5_2 ok_q7_5_3
theorem ok_q7_5_4 : partOk Tryz.prog 7 5 F_q7_5_3 28 [true, true, true, true, true, false, false, false, false, false, false, false, false, false, false, false, false, false, false, false, false, false, false, false, false, false, false, false, false, false, false, false, false] q7_5_4 = true := by decide +kernel
def F_q7_5_4 : PF := (28, [true, true, true, true, true, false, false, false, false, false, false, false, false, false, false, false, false, false, false, false, false, false, false, false, false, false, false, false, false, false, false, false, false], q7_5_4) :: F_q7_5_3
theorem all_q7_5_4 : AllOk Tryz.prog 7 5 F_q7_5_4 := allOk_cons all_q7_5_3 ok_q7_5_4
theorem ok_q7_5_5 : partOk Tryz.prog 7 5 F_q7_5_4 29 [true, true, true, false, false, true, false, false, false, false, false, false, false, false, false, false, false, false, false, false, false, false, false, false, false, false, false, false, false, false, false, false, false] q7_5_5 = true := by decide +kernel
def F_q7_5_5 : PF := (29, [true, true, true, false, false, true, false, false, false, false, false, false, false, false, false, false, false, false, false, false, false, false, false, false, false, false, false, false, false, false, false, false, false], q7_5_5) :: F_q7_5_4
theorem all_q7_5_5 : AllOk Tryz.prog 7 5 F_q7_5_5 := allOk_cons all_q7_5_4 ok_q7_5_5
theorem ok_q7_5_6 : partOk Tryz.prog 7 5 F_q7_5_5 28 [true, false, true, true, true, true, false, false, false, false, false, false, false, false, false, false, false, false, false, false, false, false, false, false, false, false, false, false, false, false, false, false, false] q7_5_6 = true := by decide +kernel
def F_q7_5_6 : PF := (28, [true, false, true, true, true, true, false, false, false, false, false, false, false, false, false, false, false, false, false, false, false, false, false, false, false, false, false, false, false, false, false, false, false], q7_5_6) :: F_q7_5_5
theorem all_q7_5_6 : AllOk Tryz.prog 7 5 F_q7_5_6 := allOk_cons all_q7_5_5 ok_q7_5_6
def pw7_5 : Plan := (.pure 0 (.pure 2 (.alt (.eff 1 (.alt (.eff 3 (.pure 4 q7_5_4)) (.eff 5 q7_5_5))) (.alt (.eff 3 (.pure 4 (.alt (.eff 1 q7_5_4) (.eff 5 q7_5_6)))) (.eff 5 (.alt (.eff 1 q7_5_5) (.eff 3 (.pure 4 q7_5_6))))))))
theorem okw7_5 : wholeOk Tryz.prog 7 5 F_q7_5_6 pw7_5 = true := by decide +kernel
theorem okf7 : okB Tryz.prog (plansIn plTbl) 7 = true := by
  refine okB_of (skip := [5]) (by decide +kernel) ?_
  intro id hid ops ho
  simp only [List.mem_cons, List.not_mem_nil, or_false] at hid
  rcases hid with rfl
  · exact ⟨pw7_5, rfl, whole_ok all_q7_5_6 okw7_5 ops ho⟩
theorem okf8 : okB Tryz.prog (plansIn plTbl) 8 = true := by decide +kernel
theorem okf9 : okB Tryz.prog (plansIn plTbl) 9 = true := by decide +kernel
theorem okf12 : okB Tryz.prog (plansIn plTbl) 12 = true := by decide +kernel
theorem okf15 : okB Tryz.prog (plansIn plTbl) 15 = true := by decide +kernel
theorem okf20 : okB Tryz.prog (plansIn plTbl) 20 = true := by decide +kernel
theorem okf28 : okB Tryz.prog (plansIn plTbl) 28 = true := by decide +kernel
theorem okf31 : okB Tryz.prog (plansIn plTbl) 31 = true := by decide +kernel
theorem okf33 : okB Tryz.prog (plansIn plTbl) 33 = true := by decide +kernel
theorem okf36 : okB Tryz.prog (plansIn plTbl) 36 = true := by decide +kernel
theorem okf39 : okB Tryz.prog (plansIn plTbl) 39 = true := by decide +kernel
theorem okf40 : okB Tryz.prog (plansIn plTbl) 40 = true := by decide +kernel
theorem okf41 : okB Tryz.prog (plansIn plTbl) 41 = true := by decide +kernel
theorem okf43 : okB Tryz.prog (plansIn plTbl) 43 = true := by decide +kernel
theorem okf46 : okB Tryz.prog (plansIn plTbl) 46 = true := by decide +kernel
theorem okf48 : okB Tryz.prog (plansIn plTbl) 48 = true := by decide +kernel
theorem okf49 : okB Tryz.prog (plansIn plTbl) 49 = true := by decide +kernel
theorem okf54 : okB Tryz.prog (plansIn plTbl) 54 = true := by decide +kernel
theorem okf56 : okB Tryz.prog (plansIn plTbl) 56 = true := by decide +kernel
theorem okf60 : okB Tryz.prog (plansIn plTbl) 60 = true := by decide +kernel
theorem okf64 : okB Tryz.prog (plansIn plTbl) 64 = true := by decide +kernel
theorem okf76 : okB Tryz.prog (plansIn plTbl) 76 = true := by decide +kernel
theorem okf78 : okB Tryz.prog (plansIn plTbl) 78 = true := by decide +kernel
theorem okf82 : okB Tryz.prog (plansIn plTbl) 82 = true := by decide +kernel
theorem okf98 : okB Tryz.prog (plansIn plTbl) 98 = true := by decide +kernel
theorem okf100 : okB Tryz.prog (plansIn plTbl) 100 = true := by decide +kernel
theorem okf101 : okB Tryz.prog (plansIn plTbl) 101 = true := by decide +kernel
theorem okf110 : okB Tryz.prog (plansIn plTbl) 110 = true := by decide +kernel
theorem okf112 : okB Tryz.prog (plansIn plTbl) 112 = true := by decide +kernel
theorem okf116 : okB Tryz.prog (plansIn plTbl) 116 = true := by decide +kernel
theorem okf122 : okB Tryz.prog (plansIn plTbl) 122 = true := by decide +kernel
theorem okf123 : okB Tryz.prog (plansIn plTbl) 123 = true := by decide +kernel
theorem okf124 : okB Tryz.prog (plansIn plTbl) 124 = true := by decide +kernel
theorem okf126 : okB Tryz.prog (plansIn plTbl) 126 = true := by decide +kernel
theorem okf127 : okB Tryz.prog (plansIn plTbl) 127 = true := by decide +kernel
theorem okf129 : okB Tryz.prog (plansIn plTbl) 129 = true := by decide +kernel
theorem okf130 : okB Tryz.prog (plansIn plTbl) 130 = true := by decide +kernel
theorem okf137 : okB Tryz.prog (plansIn plTbl) 137 = true := by decide +kernel
theorem okf139 : okB Tryz.prog (plansIn plTbl) 139 = true := by decide +kernel
theorem okf145 : okB Tryz.prog (plansIn plTbl) 145 = true := by decide +kernel
def plKeys : List Nat := [7, 8, 9, 12, 15, 20, 28, 31, 33, 36, 39, 40, 41, 43, 46, 48, 49, 54, 56, 60, 64, 76, 78, 82, 98, 100, 101, 110, 112, 116, 122, 123, 124, 126, 127, 129, 130, 137, 139, 145]
theorem ok_keys : ∀ f, memN f plKeys = true → okB Tryz.prog (plansIn plTbl) f = true := (okB_cons okf7 (okB_cons okf8 (okB_cons okf9 (okB_cons okf12 (okB_cons okf15 (okB_cons okf20 (okB_cons okf28 (okB_cons okf31 (okB_cons okf33 (okB_cons okf36 (okB_cons okf39 (okB_cons okf40 (okB_cons okf41 (okB_cons okf43 (okB_cons okf46 (okB_cons okf48 (okB_cons okf49 (okB_cons okf54 (okB_cons okf56 (okB_cons okf60 (okB_cons okf64 (okB_cons okf76 (okB_cons okf78 (okB_cons okf82 (okB_cons okf98 (okB_cons okf100 (okB_cons okf101 (okB_cons okf110 (okB_cons okf112 (okB_cons okf116 (okB_cons okf122 (okB_cons okf123 (okB_cons okf124 (okB_cons okf126 (okB_cons okf127 (okB_cons okf129 (okB_cons okf130 (okB_cons okf137 (okB_cons okf139 (okB_cons okf145 okB_nil))))))))))))))))))))))))))))))))))))))))
theorem keys_all : keysIn plTbl plKeys 163 = true := by decide +kernel
theorem plans_ok : OkAll Tryz.prog (plansIn plTbl) := okB_all ok_keys keys_all (by decide +kernel)
theorem base_ok (l : List Value) (h : ∀ v ∈ l, v.oneCell' = true) (w : World) : @RunBase (sigOf (plansIn plTbl) l h w) Tryz.prog (plansIn plTbl) := RunBase.of mixed (by decide +kernel) plans_ok l h w
end Go.Proofs.YtlgkghmkkohadaaGreat.V
