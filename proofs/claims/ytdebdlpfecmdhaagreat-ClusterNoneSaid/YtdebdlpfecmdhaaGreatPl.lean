/-
  The plans of the regions that draw their order, printed by a program; they go with every order. No condition.
-/
import Derived.Test.YtdebdlpfecmdhaaGreatEk
import Derived.Test.YtdebdlpfecmdhaaGreatFacts
namespace Go.Proofs.YtdebdlpfecmdhaaGreat.V
def pl8 : List (Nat × Plan) := [(6, (.pure 0 (.pure 2 (.pure 3 (.pure 5 (.read 1 (.read 4 (.read 6 (.alt (.eff 7 (.pure 8 (.eff 9 (.eff 10 .done)))) (.eff 9 (.eff 7 (.pure 8 (.eff 10 .done))))))))))))),
  (9, (.pure 0 (.pure 1 (.pure 2 (.pure 4 (.pure 5 (.pure 6 (.read 3 (.read 7 (.eff 8 .done)))))))))),
  (10, (.pure 0 (.pure 1 (.pure 2 (.pure 4 (.pure 5 (.pure 6 (.pure 10 (.read 3 (.read 7 (.eff 8 (.pure 9 .done))))))))))))]
def pl26 : List (Nat × Plan) := [(7, (.pure 0 (.pure 1 (.pure 2 (.pure 4 (.pure 5 (.pure 6 (.read 3 (.read 7 (.pure 8 .done))))))))))]
def pl40 : List (Nat × Plan) := [(3, (.read 0 (.eff 1 (.eff 2 (.pure 3 (.eff 4 (.pure 5 .done)))))))]
def pl48 : List (Nat × Plan) := [(5, (.pure 0 (.pure 1 (.pure 2 (.pure 3 (.pure 5 (.read 4 (.read 7 (.eff 6 (.eff 8 (.pure 9 .done)))))))))))]
def pl52 : List (Nat × Plan) := [(1, (.pure 0 (.pure 1 (.pure 2 (.pure 4 (.read 3 (.read 5 (.eff 6 (.pure 7 (.pure 8 (.pure 9 (.pure 10 (.pure 11 .done)))))))))))))]
def pl55 : List (Nat × Plan) := [(2, (.pure 0 (.pure 1 (.pure 2 (.pure 3 (.pure 4 (.pure 5 (.pure 7 (.pure 8 (.read 6 (.read 9 (.eff 10 (.pure 11 (.pure 12 .done)))))))))))))),
  (4, (.pure 0 (.pure 1 (.pure 2 (.pure 4 (.read 3 (.read 5 (.eff 6 (.pure 7 (.pure 8 (.pure 9 (.pure 10 (.pure 11 .done))))))))))))),
  (6, (.pure 1 (.pure 2 (.pure 3 (.pure 5 (.pure 6 (.read 0 (.read 4 (.read 7 (.eff 8 (.pure 9 (.pure 10 (.pure 11 (.pure 12 (.pure 13 .done)))))))))))))))]
def pl73 : List (Nat × Plan) := [(7, (.pure 0 (.pure 1 (.pure 2 (.pure 3 (.pure 5 (.pure 6 (.pure 7 (.read 4 (.read 8 (.eff 9 (.pure 10 (.eff 11 (.pure 12 .done))))))))))))))]
def pl87 : List (Nat × Plan) := [(11, (.pure 0 (.pure 1 (.pure 2 (.read 3 (.read 4 (.eff 5 (.pure 6 (.pure 7 (.pure 8 (.pure 9 (.pure 10 .done))))))))))))]
def pl126 : List (Nat × Plan) := [(6, (.pure 0 (.pure 1 (.pure 2 (.pure 4 (.pure 6 (.pure 8 (.pure 9 (.pure 10 (.pure 11 (.pure 13 (.pure 16 (.pure 17 (.pure 18 (.pure 20 (.pure 21 (.pure 22 (.read 3 (.read 5 (.read 7 (.read 12 (.read 14 (.read 19 (.read 23 (.eff 15 (.eff 24 (.pure 25 (.eff 26 (.pure 27 (.pure 28 (.pure 29 (.pure 30 (.pure 31 .done))))))))))))))))))))))))))))))))),
  (12, (.pure 0 (.pure 1 (.pure 2 (.pure 4 (.pure 5 (.pure 6 (.pure 8 (.read 3 (.read 7 (.eff 9 .done)))))))))))]
def pl127 : List (Nat × Plan) := [(8, (.pure 0 (.pure 1 (.pure 2 (.pure 3 (.pure 5 (.pure 6 (.pure 7 (.pure 8 (.pure 9 (.read 4 (.read 10 (.eff 11 (.eff 12 (.eff 13 (.pure 14 (.pure 15 (.eff 16 .done))))))))))))))))))]
def pl131 : List (Nat × Plan) := [(1, (.pure 0 (.pure 1 (.pure 2 (.pure 4 (.read 3 (.read 5 (.eff 6 (.pure 7 (.pure 8 (.pure 9 (.pure 10 (.pure 11 .done))))))))))))),
  (2, (.pure 0 (.pure 1 (.pure 2 (.pure 4 (.pure 5 (.pure 6 (.pure 7 (.read 3 (.read 8 (.eff 9 .done))))))))))),
  (4, (.pure 0 (.pure 1 (.pure 2 (.pure 4 (.pure 5 (.pure 6 (.read 3 (.read 7 (.eff 8 .done))))))))))]
def pl132 : List (Nat × Plan) := [(1, (.pure 0 (.pure 1 (.pure 2 (.pure 4 (.pure 5 (.pure 6 (.read 3 (.read 7 (.eff 8 (.pure 9 (.pure 10 (.pure 11 (.pure 12 (.pure 13 .done)))))))))))))))]
def pl141 : List (Nat × Plan) := [(2, (.pure 0 (.pure 1 (.pure 2 (.pure 4 (.read 3 (.read 5 (.eff 6 .done)))))))),
  (5, (.pure 0 (.pure 1 (.pure 2 (.read 3 (.read 4 (.eff 5 (.eff 6 .done)))))))),
  (6, (.pure 0 (.pure 1 (.pure 2 (.pure 4 (.pure 5 (.pure 6 (.pure 8 (.read 3 (.read 7 (.pure 9 (.read 10 (.eff 11 .done)))))))))))))]
def pl149 : List (Nat × Plan) := [(1, (.pure 0 (.pure 1 (.pure 3 (.pure 4 (.pure 5 (.pure 6 (.read 2 (.read 7 (.pure 8 (.pure 9 (.pure 10 (.pure 11 (.eff 12 .done))))))))))))))]
def pl163 : List (Nat × Plan) := [(1, (.pure 0 (.pure 3 (.read 1 (.read 4 (.eff 2 (.pure 6 (.eff 5 (.eff 7 (.pure 8 (.eff 9 .done)))))))))))]
def pl164 : List (Nat × Plan) := [(6, (.pure 1 (.pure 2 (.pure 3 (.read 0 (.read 4 (.eff 5 .done)))))))]
def pl184 : List (Nat × Plan) := [(10, (.pure 0 (.pure 1 (.pure 2 (.pure 4 (.read 3 (.read 5 (.eff 6 .done)))))))),
  (12, (.pure 0 (.pure 1 (.pure 2 (.pure 4 (.pure 5 (.pure 6 (.read 3 (.read 7 (.pure 8 (.read 9 .done))))))))))),
  (14, (.pure 0 (.pure 1 (.pure 2 (.pure 4 (.pure 5 (.pure 6 (.read 3 (.read 7 (.eff 8 .done))))))))))]
def pl185 : List (Nat × Plan) := [(10, (.pure 0 (.pure 1 (.alt (.eff 2 (.pure 3 (.eff 4 (.pure 5 .done)))) (.eff 4 (.read 2 (.pure 3 (.pure 5 .done))))))))]
def pl186 : List (Nat × Plan) := [(3, (.pure 0 (.pure 1 (.pure 2 (.pure 4 (.read 3 (.read 5 (.eff 6 (.pure 7 (.pure 8 (.eff 9 (.pure 10 .done))))))))))))]
def pl187 : List (Nat × Plan) := [(8, (.pure 0 (.pure 1 (.pure 2 (.pure 3 (.read 4 (.read 5 (.eff 6 (.eff 7 (.pure 8 (.pure 9 (.eff 10 .done))))))))))))]
def pl212 : List (Nat × Plan) := [(20, (.pure 0 (.pure 1 (.pure 2 (.pure 5 (.read 3 (.pure 4 (.read 6 (.pure 7 .done))))))))),
  (21, (.pure 0 (.pure 1 (.pure 2 (.pure 3 (.pure 4 (.pure 6 (.pure 9 (.pure 10 (.pure 11 (.pure 13 (.read 5 (.read 12 (.alt (.eff 7 (.alt (.eff 8 (.eff 14 (.eff 15 (.pure 16 (.pure 17 (.eff 18 (.pure 19 (.pure 20 (.eff 21 .done))))))))) (.eff 14 (.eff 8 (.eff 15 (.pure 16 (.pure 17 (.eff 18 (.pure 19 (.pure 20 (.eff 21 .done))))))))))) (.eff 14 (.eff 7 (.eff 8 (.eff 15 (.pure 16 (.pure 17 (.eff 18 (.pure 19 (.pure 20 (.eff 21 .done)))))))))))))))))))))))),
  (22, (.pure 0 (.pure 1 (.pure 2 (.pure 4 (.pure 6 (.pure 7 (.pure 8 (.pure 10 (.read 3 (.read 5 (.read 9 (.read 12 (.alt (.eff 11 (.alt (.eff 13 (.pure 15 (.alt (.eff 14 (.eff 16 (.pure 17 (.eff 18 .done)))) (.eff 16 (.read 14 (.pure 17 (.eff 18 .done))))))) (.eff 14 (.eff 13 (.pure 15 (.eff 16 (.pure 17 (.eff 18 .done)))))))) (.alt (.eff 13 (.pure 15 (.alt (.eff 11 (.alt (.eff 14 (.eff 16 (.pure 17 (.eff 18 .done)))) (.eff 16 (.read 14 (.pure 17 (.eff 18 .done)))))) (.alt (.eff 14 (.alt (.eff 11 (.eff 16 (.pure 17 (.eff 18 .done)))) (.eff 16 (.read 11 (.pure 17 (.eff 18 .done)))))) (.eff 16 (.read 11 (.read 14 (.pure 17 (.eff 18 .done))))))))) (.eff 14 (.alt (.eff 11 (.eff 13 (.pure 15 (.eff 16 (.pure 17 (.eff 18 .done)))))) (.eff 13 (.pure 15 (.alt (.eff 11 (.eff 16 (.pure 17 (.eff 18 .done)))) (.eff 16 (.read 11 (.pure 17 (.eff 18 .done)))))))))))))))))))))))),
  (23, (.pure 0 (.pure 1 (.pure 2 (.pure 4 (.pure 6 (.read 3 (.read 5 (.read 7 (.eff 8 .done)))))))))),
  (24, (.pure 0 (.pure 1 (.pure 2 (.pure 4 (.read 3 (.read 5 (.eff 6 .done))))))))]
def pl214 : List (Nat × Plan) := [(23, (.pure 0 (.pure 1 (.pure 2 (.pure 4 (.pure 5 (.pure 6 (.pure 7 (.pure 9 (.pure 11 (.read 3 (.read 8 (.read 10 (.eff 12 (.eff 13 (.eff 14 .done))))))))))))))))]
def pl243 : List (Nat × Plan) := [(5, (.pure 0 (.pure 1 (.pure 2 (.pure 4 (.pure 6 (.read 3 (.read 5 (.read 7 (.pure 8 (.pure 9 (.pure 10 (.eff 11 .done))))))))))))),
  (6, (.pure 0 (.pure 1 (.pure 2 (.pure 3 (.pure 5 (.read 4 (.read 6 (.eff 7 (.eff 8 (.pure 9 (.pure 10 (.eff 11 .done)))))))))))))]
def pl250 : List (Nat × Plan) := [(3, (.pure 0 (.pure 1 (.pure 2 (.pure 4 (.pure 5 (.pure 6 (.pure 8 (.read 3 (.read 7 (.eff 9 (.pure 10 (.pure 11 .done)))))))))))))]
def pl262 : List (Nat × Plan) := [(3, (.pure 0 (.pure 1 (.pure 2 (.pure 3 (.pure 5 (.pure 6 (.pure 7 (.pure 8 (.read 4 (.pure 10 (.read 9 (.pure 11 .done)))))))))))))]
def pl305 : List (Nat × Plan) := [(6, (.pure 0 (.pure 1 (.pure 2 (.pure 4 (.pure 5 (.pure 6 (.read 3 (.read 7 (.pure 8 .done))))))))))]
def pl306 : List (Nat × Plan) := [(3, (.pure 0 (.pure 1 (.pure 2 (.pure 3 (.pure 5 (.pure 6 (.pure 7 (.pure 8 (.read 4 (.pure 10 (.read 9 (.pure 11 .done)))))))))))))]
def pl309 : List (Nat × Plan) := [(9, (.pure 0 (.pure 1 (.pure 2 (.pure 5 (.pure 6 (.pure 7 (.read 3 (.pure 4 (.read 8 (.pure 9 (.pure 10 .done))))))))))))]
def pl310 : List (Nat × Plan) := [(9, (.pure 0 (.pure 1 (.pure 2 (.pure 6 (.pure 7 (.pure 8 (.read 3 (.pure 4 (.pure 5 (.read 9 (.pure 10 (.pure 11 (.pure 12 .done))))))))))))))]
def pl314 : List (Nat × Plan) := [(11, (.pure 0 (.pure 1 (.pure 2 (.pure 4 (.pure 5 (.pure 6 (.read 3 (.read 7 (.pure 8 .done)))))))))),
  (19, (.pure 0 (.pure 1 (.pure 2 (.pure 4 (.pure 5 (.pure 6 (.read 3 (.read 7 (.pure 8 (.pure 9 .done))))))))))),
  (23, (.pure 0 (.pure 1 (.pure 2 (.pure 4 (.pure 5 (.pure 6 (.pure 7 (.pure 9 (.read 3 (.read 8 (.pure 10 (.pure 11 (.eff 12 (.pure 13 (.eff 14 .done))))))))))))))))]
def pl324 : List (Nat × Plan) := [(3, (.pure 0 (.pure 1 (.pure 2 (.pure 4 (.pure 5 (.pure 6 (.read 3 (.pure 8 (.read 7 (.pure 9 .done)))))))))))]
def pl326 : List (Nat × Plan) := [(1, (.pure 0 (.pure 1 (.pure 2 (.pure 4 (.pure 6 (.pure 7 (.pure 8 (.read 3 (.read 9 (.pure 10 (.pure 11 (.eff 5 (.pure 12 (.pure 13 .done))))))))))))))),
  (2, (.pure 0 (.pure 1 (.pure 2 (.pure 4 (.read 3 (.pure 5 (.read 6 (.pure 7 (.pure 8 (.pure 9 (.pure 10 (.pure 11 (.pure 13 (.pure 14 (.pure 15 (.pure 17 (.pure 26 (.read 12 (.read 16 (.pure 18 (.read 19 (.pure 20 (.pure 21 (.read 22 (.pure 23 (.pure 24 (.read 25 (.pure 27 (.pure 28 .done))))))))))))))))))))))))))))))]
def pl333 : List (Nat × Plan) := [(1, (.pure 0 (.pure 1 (.pure 2 (.pure 4 (.pure 6 (.pure 7 (.pure 8 (.read 3 (.read 9 (.pure 10 (.eff 5 (.eff 11 (.pure 12 (.pure 13 (.pure 14 (.pure 15 (.pure 16 .done))))))))))))))))))]
def pl336 : List (Nat × Plan) := [(2, (.pure 0 (.pure 1 (.pure 2 (.pure 4 (.read 3 (.read 5 (.eff 6 .done)))))))),
  (5, (.pure 0 (.pure 1 (.pure 2 (.pure 4 (.read 3 (.read 5 (.eff 6 .done))))))))]
def pl350 : List (Nat × Plan) := [(1, (.pure 0 (.pure 1 (.pure 2 (.pure 4 (.pure 5 (.pure 6 (.pure 8 (.pure 10 (.pure 11 (.pure 12 (.read 3 (.read 7 (.read 13 (.pure 14 (.pure 15 (.eff 9 (.pure 16 (.pure 17 (.pure 18 .done))))))))))))))))))))]
def pl379 : List (Nat × Plan) := [(1, (.pure 0 (.pure 1 (.pure 2 (.pure 3 (.pure 5 (.pure 6 (.read 4 (.read 7 (.eff 8 (.eff 9 (.pure 10 (.pure 11 (.eff 12 .done))))))))))))))]
def pl382 : List (Nat × Plan) := [(2, (.pure 0 (.pure 1 (.pure 2 (.read 3 (.read 4 (.pure 5 (.pure 6 (.eff 7 .done)))))))))]
def pl383 : List (Nat × Plan) := [(1, (.pure 0 (.pure 1 (.pure 2 (.pure 3 (.pure 5 (.pure 6 (.read 4 (.read 7 (.eff 8 (.pure 9 (.pure 10 (.eff 11 .done)))))))))))))]
def pl417 : List (Nat × Plan) := [(6, (.pure 0 (.pure 1 (.pure 2 (.pure 3 (.pure 4 (.pure 5 (.pure 6 (.pure 7 (.pure 8 (.pure 10 (.read 9 (.pure 11 (.read 12 (.pure 13 (.pure 14 (.read 15 (.eff 16 (.pure 17 (.pure 18 .done))))))))))))))))))))]
def plTbl : Tr (List (Nat × Plan)) := (.n none (.n none (.n none (.n none (.n none (.n none (.n none (.n (some pl127) .e (.n (some pl383) .e .e)) .e) .e) .e) (.n none .e (.n (some pl55) (.n (some pl87) .e .e) .e))) (.n none (.n none (.n none (.n none (.n (some pl131) .e .e) .e) (.n none (.n (some pl163) .e .e) .e)) (.n none .e (.n none .e (.n (some pl243) .e .e)))) (.n none .e (.n none .e (.n none (.n (some pl187) .e .e) (.n none (.n (some pl379) .e .e) .e)))))) (.n none (.n none (.n none (.n none .e (.n none (.n none .e (.n (some pl417) .e .e)) .e)) (.n none .e (.n none (.n none (.n (some pl305) .e .e) .e) .e))) (.n none (.n none (.n (some pl73) .e .e) .e) (.n none .e (.n none (.n (some pl185) .e .e) .e)))) (.n none (.n none .e (.n none (.n none (.n (some pl149) .e .e) .e) (.n none (.n none (.n (some pl309) .e .e) .e) .e))) (.n none (.n none (.n none (.n (some pl141) .e .e) (.n none (.n (some pl333) .e .e) .e)) .e) .e)))) (.n none (.n none (.n (some pl8) (.n none .e (.n (some pl48) (.n none .e (.n none (.n (some pl336) .e .e) .e)) .e)) (.n none (.n (some pl40) .e .e) (.n none .e (.n none (.n (some pl184) .e .e) .e)))) (.n none (.n none (.n none (.n none (.n (some pl132) .e .e) (.n none (.n (some pl324) .e .e) .e)) (.n none (.n (some pl164) .e .e) .e)) (.n (some pl52) (.n none .e (.n (some pl212) .e .e)) .e)) .e)) (.n none (.n none (.n none .e (.n none .e (.n none (.n none (.n (some pl306) .e .e) .e) .e))) (.n (some pl26) .e (.n none .e (.n none (.n (some pl186) (.n (some pl314) .e .e) .e) (.n (some pl250) .e .e))))) (.n none (.n none (.n none (.n none (.n none (.n (some pl262) .e .e) .e) (.n none (.n (some pl326) .e .e) .e)) .e) (.n none (.n none .e (.n (some pl214) .e .e)) (.n none (.n none (.n (some pl310) .e .e) .e) .e))) (.n none .e (.n none (.n none .e (.n none (.n (some pl350) .e .e) .e)) (.n (some pl126) .e (.n none (.n (some pl382) .e .e) .e))))))))
theorem okf8 : okB Tryz.prog (plansIn plTbl) 8 = true := by decide +kernel
theorem okf26 : okB Tryz.prog (plansIn plTbl) 26 = true := by decide +kernel
theorem okf40 : okB Tryz.prog (plansIn plTbl) 40 = true := by decide +kernel
theorem okf48 : okB Tryz.prog (plansIn plTbl) 48 = true := by decide +kernel
theorem okf52 : okB Tryz.prog (plansIn plTbl) 52 = true := by decide +kernel
theorem okf55 : okB Tryz.prog (plansIn plTbl) 55 = true := by decide +kernel
theorem okf73 : okB Tryz.prog (plansIn plTbl) 73 = true := by decide +kernel
theorem okf87 : okB Tryz.prog (plansIn plTbl) 87 = true := by decide +kernel
theorem okf126 : okB Tryz.prog (plansIn plTbl) 126 = true := by decide +kernel
theorem okf127 : okB Tryz.prog (plansIn plTbl) 127 = true := by decide +kernel
theorem okf131 : okB Tryz.prog (plansIn plTbl) 131 = true := by decide +kernel
theorem okf132 : okB Tryz.prog (plansIn plTbl) 132 = true := by decide +kernel
theorem okf141 : okB Tryz.prog (plansIn plTbl) 141 = true := by decide +kernel
theorem okf149 : okB Tryz.prog (plansIn plTbl) 149 = true := by decide +kernel
theorem okf163 : okB Tryz.prog (plansIn plTbl) 163 = true := by decide +kernel
theorem okf164 : okB Tryz.prog (plansIn plTbl) 164 = true := by decide +kernel
theorem okf184 : okB Tryz.prog (plansIn plTbl) 184 = true := by decide +kernel
theorem okf185 : okB Tryz.prog (plansIn plTbl) 185 = true := by decide +kernel
theorem okf186 : okB Tryz.prog (plansIn plTbl) 186 = true := by decide +kernel
theorem okf187 : okB Tryz.prog (plansIn plTbl) 187 = true := by decide +kernel
theorem okf212 : okB Tryz.prog (plansIn plTbl) 212 = true := by decide +kernel
theorem okf214 : okB Tryz.prog (plansIn plTbl) 214 = true := by decide +kernel
theorem okf243 : okB Tryz.prog (plansIn plTbl) 243 = true := by decide +kernel
theorem okf250 : okB Tryz.prog (plansIn plTbl) 250 = true := by decide +kernel
theorem okf262 : okB Tryz.prog (plansIn plTbl) 262 = true := by decide +kernel
theorem okf305 : okB Tryz.prog (plansIn plTbl) 305 = true := by decide +kernel
theorem okf306 : okB Tryz.prog (plansIn plTbl) 306 = true := by decide +kernel
theorem okf309 : okB Tryz.prog (plansIn plTbl) 309 = true := by decide +kernel
theorem okf310 : okB Tryz.prog (plansIn plTbl) 310 = true := by decide +kernel
theorem okf314 : okB Tryz.prog (plansIn plTbl) 314 = true := by decide +kernel
theorem okf324 : okB Tryz.prog (plansIn plTbl) 324 = true := by decide +kernel
theorem okf326 : okB Tryz.prog (plansIn plTbl) 326 = true := by decide +kernel
theorem okf333 : okB Tryz.prog (plansIn plTbl) 333 = true := by decide +kernel
theorem okf336 : okB Tryz.prog (plansIn plTbl) 336 = true := by decide +kernel
theorem okf350 : okB Tryz.prog (plansIn plTbl) 350 = true := by decide +kernel
theorem okf379 : okB Tryz.prog (plansIn plTbl) 379 = true := by decide +kernel
theorem okf382 : okB Tryz.prog (plansIn plTbl) 382 = true := by decide +kernel
theorem okf383 : okB Tryz.prog (plansIn plTbl) 383 = true := by decide +kernel
theorem okf417 : okB Tryz.prog (plansIn plTbl) 417 = true := by decide +kernel
def plKeys : List Nat := [8, 26, 40, 48, 52, 55, 73, 87, 126, 127, 131, 132, 141, 149, 163, 164, 184, 185, 186, 187, 212, 214, 243, 250, 262, 305, 306, 309, 310, 314, 324, 326, 333, 336, 350, 379, 382, 383, 417]
theorem ok_keys : ∀ f, memN f plKeys = true → okB Tryz.prog (plansIn plTbl) f = true := (okB_cons okf8 (okB_cons okf26 (okB_cons okf40 (okB_cons okf48 (okB_cons okf52 (okB_cons okf55 (okB_cons okf73 (okB_cons okf87 (okB_cons okf126 (okB_cons okf127 (okB_cons okf131 (okB_cons okf132 (okB_cons okf141 (okB_cons okf149 (okB_cons okf163 (okB_cons okf164 (okB_cons okf184 (okB_cons okf185 (okB_cons okf186 (okB_cons okf187 (okB_cons okf212 (okB_cons okf214 (okB_cons okf243 (okB_cons okf250 (okB_cons okf262 (okB_cons okf305 (okB_cons okf306 (okB_cons okf309 (okB_cons okf310 (okB_cons okf314 (okB_cons okf324 (okB_cons okf326 (okB_cons okf333 (okB_cons okf336 (okB_cons okf350 (okB_cons okf379 (okB_cons okf382 (okB_cons okf383 (okB_cons okf417 okB_nil)))))))))))))))))))))))))))))))))))))))
theorem keys_all : keysIn plTbl plKeys 507 = true := by decide +kernel
theorem plans_ok : OkAll Tryz.prog (plansIn plTbl) := okB_all ok_keys keys_all (by decide +kernel)
end Go.Proofs.YtdebdlpfecmdhaaGreat.V
