/- Parts of one proof, joined: E222, E223, E224, E225, E250, E251, E252, E253, E254, E255, E256, E263, E264, E267, E174, E93, E175, G175, G93, G174, E221, E257, G257, G221, E91, E92, G92, G91, E21, Klev. -/
import Derived.Test.YtnojehmbiceceaaMLevelSubtracts7
import Derived.Test.YtnojehmbiceceaaProg
section
set_option linter.unusedVariables false
set_option linter.unusedSimpArgs false
set_option maxRecDepth 100000
namespace Go.Proofs.Ytnojehmbiceceaa.E
open Go.Ev
noncomputable def en222 : Entry := ⟨Try.f222, [(0, mb 84 0 [0, 1, 9, 10]), (2, mb 84 0 [0, 1, 9, 10]), (4, mb 84 0 [0, 1, 9, 10]), (1000001, mb 84 0 [9]), (1000002, mb 84 0 [0, 1, 9, 10]), (1000003, mb 84 0 [0, 1, 9, 10]), (1000004, mb 84 0 [0, 1, 9, 10]), (1000005, mb 84 0 [0, 1, 9, 10]), (1000006, mb 84 0 [0, 1, 9, 10]), (1000000, mb 84 0 [8])]⟩
theorem dw222_1 (lv : Nat) (env : List V) (st : Store) (o : Option (List V × Store)) : drawR en222.ms 1 lv env st o = if lv < 1000000000000000000000000000000 then (o) else none := nr rfl
theorem kl222_1 (lv : Nat) (st : Store) : killR en222.ms 1 lv st = st := nr rfl
theorem nc222_1 : ncOf en222.ms 1 = false := nr rfl
theorem dw222_3 (lv : Nat) (env : List V) (st : Store) (o : Option (List V × Store)) : drawR en222.ms 3 lv env st o = if lv < 1000000000000000000000000000000 then (o) else none := nr rfl
theorem kl222_3 (lv : Nat) (st : Store) : killR en222.ms 3 lv st = st := nr rfl
theorem nc222_3 : ncOf en222.ms 3 = false := nr rfl
theorem dw222_5 (lv : Nat) (env : List V) (st : Store) (o : Option (List V × Store)) : drawR en222.ms 5 lv env st o = if lv < 1000000000000000000000000000000 then (o) else none := nr rfl
theorem kl222_5 (lv : Nat) (st : Store) : killR en222.ms 5 lv st = st := nr rfl
theorem nc222_5 : ncOf en222.ms 5 = false := nr rfl
theorem dw222_8 (lv : Nat) (env : List V) (st : Store) (o : Option (List V × Store)) : drawR en222.ms 8 lv env st o = if lv < 1000000000000000000000000000000 then (o) else none := nr rfl
theorem kl222_8 (lv : Nat) (st : Store) : killR en222.ms 8 lv st = st := nr rfl
theorem nc222_8 : ncOf en222.ms 8 = false := nr rfl
theorem mk222_0 (vs : List V) : mask (maskOf en222.ms 0) vs = km 84 0 [0, 1, 9, 10] vs := mask_mb _ _ _ _
theorem mk222_2 (vs : List V) : mask (maskOf en222.ms 2) vs = km 84 0 [0, 1, 9, 10] vs := mask_mb _ _ _ _
theorem mk222_4 (vs : List V) : mask (maskOf en222.ms 4) vs = km 84 0 [0, 1, 9, 10] vs := mask_mb _ _ _ _
theorem mk222_1000001 (vs : List V) : mask (maskOf en222.ms 1000001) vs = km 84 0 [9] vs := mask_mb _ _ _ _
theorem mk222_1000002 (vs : List V) : mask (maskOf en222.ms 1000002) vs = km 84 0 [0, 1, 9, 10] vs := mask_mb _ _ _ _
theorem mk222_1000003 (vs : List V) : mask (maskOf en222.ms 1000003) vs = km 84 0 [0, 1, 9, 10] vs := mask_mb _ _ _ _
theorem mk222_1000004 (vs : List V) : mask (maskOf en222.ms 1000004) vs = km 84 0 [0, 1, 9, 10] vs := mask_mb _ _ _ _
theorem mk222_1000005 (vs : List V) : mask (maskOf en222.ms 1000005) vs = km 84 0 [0, 1, 9, 10] vs := mask_mb _ _ _ _
theorem mk222_1000006 (vs : List V) : mask (maskOf en222.ms 1000006) vs = km 84 0 [0, 1, 9, 10] vs := mask_mb _ _ _ _
theorem mk222_1000000 (vs : List V) : mask (maskOf en222.ms 1000000) vs = km 84 0 [8] vs := mask_mb _ _ _ _
theorem fz222_0 (lv : Nat) (f : Run) : frzF en222.ms lv 0 f = f := nr rfl
theorem fz222_2 (lv : Nat) (f : Run) : frzF en222.ms lv 2 f = f := nr rfl
theorem fz222_4 (lv : Nat) (f : Run) : frzF en222.ms lv 4 f = f := nr rfl
noncomputable def lb222_0 : Code := loopN Try.f222 0
noncomputable def lb222_2 : Code := loopN Try.f222 1
noncomputable def lb222_4 : Code := loopN Try.f222 2
end Go.Proofs.Ytnojehmbiceceaa.E
end
section
set_option linter.unusedVariables false
set_option linter.unusedSimpArgs false
set_option maxRecDepth 100000
namespace Go.Proofs.Ytnojehmbiceceaa.E
open Go.Ev
noncomputable def en223 : Entry := ⟨Try.f223, [(0, mb 168 0 [0, 1, 10, 11]), (2, mb 168 0 [0, 1, 10, 11]), (4, mb 168 0 [0, 1, 10, 11]), (6, mb 168 0 [0, 1, 10, 11]), (8, mb 168 0 [0, 1, 10, 11]), (1000001, mb 168 0 [0, 1, 10, 11]), (1000002, mb 168 0 [0, 1, 10, 11]), (1000003, mb 168 0 [0, 1, 10, 11]), (1000004, mb 168 0 [0, 1, 10, 11]), (1000005, mb 168 0 [0, 1, 11]), (1000006, mb 168 0 [0, 1, 10, 11]), (1000007, mb 168 0 [0, 1, 10, 11]), (1000008, mb 168 0 [0, 1, 10, 11]), (1000009, mb 168 0 [0, 1, 10, 11]), (1000010, mb 168 0 [0, 1, 10, 11]), (1000000, mb 168 0 [8, 9])]⟩
theorem dw223_1 (lv : Nat) (env : List V) (st : Store) (o : Option (List V × Store)) : drawR en223.ms 1 lv env st o = if lv < 1000000000000000000000000000000 then (o) else none := nr rfl
theorem kl223_1 (lv : Nat) (st : Store) : killR en223.ms 1 lv st = st := nr rfl
theorem nc223_1 : ncOf en223.ms 1 = false := nr rfl
theorem dw223_3 (lv : Nat) (env : List V) (st : Store) (o : Option (List V × Store)) : drawR en223.ms 3 lv env st o = if lv < 1000000000000000000000000000000 then (o) else none := nr rfl
theorem kl223_3 (lv : Nat) (st : Store) : killR en223.ms 3 lv st = st := nr rfl
theorem nc223_3 : ncOf en223.ms 3 = false := nr rfl
theorem dw223_5 (lv : Nat) (env : List V) (st : Store) (o : Option (List V × Store)) : drawR en223.ms 5 lv env st o = if lv < 1000000000000000000000000000000 then (o) else none := nr rfl
theorem kl223_5 (lv : Nat) (st : Store) : killR en223.ms 5 lv st = st := nr rfl
theorem nc223_5 : ncOf en223.ms 5 = false := nr rfl
theorem dw223_8 (lv : Nat) (env : List V) (st : Store) (o : Option (List V × Store)) : drawR en223.ms 8 lv env st o = if lv < 1000000000000000000000000000000 then (o) else none := nr rfl
theorem kl223_8 (lv : Nat) (st : Store) : killR en223.ms 8 lv st = st := nr rfl
theorem nc223_8 : ncOf en223.ms 8 = false := nr rfl
theorem dw223_10 (lv : Nat) (env : List V) (st : Store) (o : Option (List V × Store)) : drawR en223.ms 10 lv env st o = if lv < 1000000000000000000000000000000 then (o) else none := nr rfl
theorem kl223_10 (lv : Nat) (st : Store) : killR en223.ms 10 lv st = st := nr rfl
theorem nc223_10 : ncOf en223.ms 10 = false := nr rfl
theorem dw223_13 (lv : Nat) (env : List V) (st : Store) (o : Option (List V × Store)) : drawR en223.ms 13 lv env st o = if lv < 1000000000000000000000000000000 then (o) else none := nr rfl
theorem kl223_13 (lv : Nat) (st : Store) : killR en223.ms 13 lv st = st := nr rfl
theorem nc223_13 : ncOf en223.ms 13 = false := nr rfl
theorem dw223_15 (lv : Nat) (env : List V) (st : Store) (o : Option (List V × Store)) : drawR en223.ms 15 lv env st o = if lv < 1000000000000000000000000000000 then (o) else none := nr rfl
theorem kl223_15 (lv : Nat) (st : Store) : killR en223.ms 15 lv st = st := nr rfl
theorem nc223_15 : ncOf en223.ms 15 = false := nr rfl
theorem dw223_18 (lv : Nat) (env : List V) (st : Store) (o : Option (List V × Store)) : drawR en223.ms 18 lv env st o = if lv < 1000000000000000000000000000000 then (o) else none := nr rfl
theorem kl223_18 (lv : Nat) (st : Store) : killR en223.ms 18 lv st = st := nr rfl
theorem nc223_18 : ncOf en223.ms 18 = false := nr rfl
theorem dw223_21 (lv : Nat) (env : List V) (st : Store) (o : Option (List V × Store)) : drawR en223.ms 21 lv env st o = if lv < 1000000000000000000000000000000 then (o) else none := nr rfl
theorem kl223_21 (lv : Nat) (st : Store) : killR en223.ms 21 lv st = st := nr rfl
theorem nc223_21 : ncOf en223.ms 21 = false := nr rfl
theorem mk223_0 (vs : List V) : mask (maskOf en223.ms 0) vs = km 168 0 [0, 1, 10, 11] vs := mask_mb _ _ _ _
theorem mk223_2 (vs : List V) : mask (maskOf en223.ms 2) vs = km 168 0 [0, 1, 10, 11] vs := mask_mb _ _ _ _
theorem mk223_4 (vs : List V) : mask (maskOf en223.ms 4) vs = km 168 0 [0, 1, 10, 11] vs := mask_mb _ _ _ _
theorem mk223_6 (vs : List V) : mask (maskOf en223.ms 6) vs = km 168 0 [0, 1, 10, 11] vs := mask_mb _ _ _ _
theorem mk223_8 (vs : List V) : mask (maskOf en223.ms 8) vs = km 168 0 [0, 1, 10, 11] vs := mask_mb _ _ _ _
theorem mk223_1000001 (vs : List V) : mask (maskOf en223.ms 1000001) vs = km 168 0 [0, 1, 10, 11] vs := mask_mb _ _ _ _
theorem mk223_1000002 (vs : List V) : mask (maskOf en223.ms 1000002) vs = km 168 0 [0, 1, 10, 11] vs := mask_mb _ _ _ _
theorem mk223_1000003 (vs : List V) : mask (maskOf en223.ms 1000003) vs = km 168 0 [0, 1, 10, 11] vs := mask_mb _ _ _ _
theorem mk223_1000004 (vs : List V) : mask (maskOf en223.ms 1000004) vs = km 168 0 [0, 1, 10, 11] vs := mask_mb _ _ _ _
theorem mk223_1000005 (vs : List V) : mask (maskOf en223.ms 1000005) vs = km 168 0 [0, 1, 11] vs := mask_mb _ _ _ _
theorem mk223_1000006 (vs : List V) : mask (maskOf en223.ms 1000006) vs = km 168 0 [0, 1, 10, 11] vs := mask_mb _ _ _ _
theorem mk223_1000007 (vs : List V) : mask (maskOf en223.ms 1000007) vs = km 168 0 [0, 1, 10, 11] vs := mask_mb _ _ _ _
theorem mk223_1000008 (vs : List V) : mask (maskOf en223.ms 1000008) vs = km 168 0 [0, 1, 10, 11] vs := mask_mb _ _ _ _
theorem mk223_1000009 (vs : List V) : mask (maskOf en223.ms 1000009) vs = km 168 0 [0, 1, 10, 11] vs := mask_mb _ _ _ _
theorem mk223_1000010 (vs : List V) : mask (maskOf en223.ms 1000010) vs = km 168 0 [0, 1, 10, 11] vs := mask_mb _ _ _ _
theorem mk223_1000000 (vs : List V) : mask (maskOf en223.ms 1000000) vs = km 168 0 [8, 9] vs := mask_mb _ _ _ _
theorem fz223_0 (lv : Nat) (f : Run) : frzF en223.ms lv 0 f = f := nr rfl
theorem fz223_2 (lv : Nat) (f : Run) : frzF en223.ms lv 2 f = f := nr rfl
theorem fz223_4 (lv : Nat) (f : Run) : frzF en223.ms lv 4 f = f := nr rfl
theorem fz223_6 (lv : Nat) (f : Run) : frzF en223.ms lv 6 f = f := nr rfl
theorem fz223_8 (lv : Nat) (f : Run) : frzF en223.ms lv 8 f = f := nr rfl
noncomputable def lb223_0 : Code := loopN Try.f223 0
noncomputable def lb223_2 : Code := loopN Try.f223 1
noncomputable def lb223_4 : Code := loopN Try.f223 2
noncomputable def lb223_6 : Code := loopN Try.f223 3
noncomputable def lb223_8 : Code := loopN Try.f223 4
end Go.Proofs.Ytnojehmbiceceaa.E
end
section
set_option linter.unusedVariables false
set_option linter.unusedSimpArgs false
set_option maxRecDepth 100000
namespace Go.Proofs.Ytnojehmbiceceaa.E
open Go.Ev
noncomputable def en224 : Entry := ⟨Try.f224, [(1000000, mb 19 0 [2])]⟩
theorem mk224_1000000 (vs : List V) : mask (maskOf en224.ms 1000000) vs = km 19 0 [2] vs := mask_mb _ _ _ _
end Go.Proofs.Ytnojehmbiceceaa.E
end
section
set_option linter.unusedVariables false
set_option linter.unusedSimpArgs false
set_option maxRecDepth 100000
namespace Go.Proofs.Ytnojehmbiceceaa.E
open Go.Ev
noncomputable def en225 : Entry := ⟨Try.f225, [(1000000, mb 25 0 [2])]⟩
theorem mk225_1000000 (vs : List V) : mask (maskOf en225.ms 1000000) vs = km 25 0 [2] vs := mask_mb _ _ _ _
end Go.Proofs.Ytnojehmbiceceaa.E
end
section
set_option linter.unusedVariables false
set_option linter.unusedSimpArgs false
set_option maxRecDepth 100000
namespace Go.Proofs.Ytnojehmbiceceaa.E
open Go.Ev
noncomputable def en250 : Entry := ⟨Try.f250, [(0, mb 53 0 [0, 1, 2, 3, 8]), (2, mb 53 0 [0, 1, 2, 3, 8, 9]), (1000001, mb 53 0 []), (1000002, mb 53 0 [0, 1, 2, 3, 8]), (1000003, mb 53 0 [0, 1, 2, 3, 8]), (1000004, mb 53 0 [0, 1, 2, 3, 8, 9]), (1000000, mb 53 0 []), (2000004, mb 1 0 [0])]⟩
theorem dw250_4 (lv : Nat) (env : List V) (st : Store) (o : Option (List V × Store)) : drawR en250.ms 4 lv env st o = if lv < 1000000000000000000000000000000 then (o) else none := nr rfl
theorem kl250_4 (lv : Nat) (st : Store) : killR en250.ms 4 lv st = st := nr rfl
theorem nc250_4 : ncOf en250.ms 4 = true := nr rfl
theorem dw250_6 (lv : Nat) (env : List V) (st : Store) (o : Option (List V × Store)) : drawR en250.ms 6 lv env st o = if lv < 1000000000000000000000000000000 then (o) else none := nr rfl
theorem kl250_6 (lv : Nat) (st : Store) : killR en250.ms 6 lv st = st := nr rfl
theorem nc250_6 : ncOf en250.ms 6 = false := nr rfl
theorem mk250_0 (vs : List V) : mask (maskOf en250.ms 0) vs = km 53 0 [0, 1, 2, 3, 8] vs := mask_mb _ _ _ _
theorem mk250_2 (vs : List V) : mask (maskOf en250.ms 2) vs = km 53 0 [0, 1, 2, 3, 8, 9] vs := mask_mb _ _ _ _
theorem mk250_1000001 (vs : List V) : mask (maskOf en250.ms 1000001) vs = km 53 0 [] vs := mask_mb _ _ _ _
theorem mk250_1000002 (vs : List V) : mask (maskOf en250.ms 1000002) vs = km 53 0 [0, 1, 2, 3, 8] vs := mask_mb _ _ _ _
theorem mk250_1000003 (vs : List V) : mask (maskOf en250.ms 1000003) vs = km 53 0 [0, 1, 2, 3, 8] vs := mask_mb _ _ _ _
theorem mk250_1000004 (vs : List V) : mask (maskOf en250.ms 1000004) vs = km 53 0 [0, 1, 2, 3, 8, 9] vs := mask_mb _ _ _ _
theorem mk250_1000000 (vs : List V) : mask (maskOf en250.ms 1000000) vs = km 53 0 [] vs := mask_mb _ _ _ _
theorem fz250_0 (lv : Nat) (f : Run) : frzF en250.ms lv 0 f = f := nr rfl
theorem fz250_2 (lv : Nat) (f : Run) : frzF en250.ms lv 2 f = f := nr rfl
noncomputable def lb250_0 : Code := loopN Try.f250 0
noncomputable def lb250_2 : Code := loopN Try.f250 1
end Go.Proofs.Ytnojehmbiceceaa.E
end
section
set_option linter.unusedVariables false
set_option linter.unusedSimpArgs false
set_option maxRecDepth 100000
namespace Go.Proofs.Ytnojehmbiceceaa.E
open Go.Ev
noncomputable def en251 : Entry := ⟨Try.f251, [(0, mb 220 0 [0, 1, 4, 10, 11]), (2, mb 220 0 [0, 10, 13]), (4, mb 220 0 [0, 2, 4, 14, 15]), (6, mb 220 0 [0, 14, 17]), (8, mb 220 0 [0, 1, 2, 3, 4, 18, 19, 20, 21, 22]), (1000001, mb 220 0 [0, 1, 10]), (1000002, mb 220 0 [0, 1, 4, 10, 11]), (1000003, mb 220 0 []), (1000004, mb 220 0 [0, 10, 13]), (1000005, mb 220 0 [0, 2, 14]), (1000006, mb 220 0 [0, 2, 4, 14, 15]), (1000007, mb 220 0 []), (1000008, mb 220 0 [0, 14, 17]), (1000009, mb 220 0 [0, 1, 2, 3, 4, 18, 19, 20]), (1000010, mb 220 0 [0, 1, 2, 3, 4, 18, 19, 20, 21, 22]), (1000000, mb 220 0 []), (2000005, mb 1 0 [0]), (2000017, mb 1 0 [0]), (2000035, mb 1 0 [0])]⟩
theorem dw251_5 (lv : Nat) (env : List V) (st : Store) (o : Option (List V × Store)) : drawR en251.ms 5 lv env st o = if lv < 1000000000000000000000000000000 then (o) else none := nr rfl
theorem kl251_5 (lv : Nat) (st : Store) : killR en251.ms 5 lv st = st := nr rfl
theorem nc251_5 : ncOf en251.ms 5 = true := nr rfl
theorem dw251_11 (lv : Nat) (env : List V) (st : Store) (o : Option (List V × Store)) : drawR en251.ms 11 lv env st o = if lv < 1000000000000000000000000000000 then (o) else none := nr rfl
theorem kl251_11 (lv : Nat) (st : Store) : killR en251.ms 11 lv st = st := nr rfl
theorem nc251_11 : ncOf en251.ms 11 = false := nr rfl
theorem dw251_17 (lv : Nat) (env : List V) (st : Store) (o : Option (List V × Store)) : drawR en251.ms 17 lv env st o = if lv < 1000000000000000000000000000000 then (o) else none := nr rfl
theorem kl251_17 (lv : Nat) (st : Store) : killR en251.ms 17 lv st = st := nr rfl
theorem nc251_17 : ncOf en251.ms 17 = true := nr rfl
theorem dw251_23 (lv : Nat) (env : List V) (st : Store) (o : Option (List V × Store)) : drawR en251.ms 23 lv env st o = if lv < 1000000000000000000000000000000 then (o) else none := nr rfl
theorem kl251_23 (lv : Nat) (st : Store) : killR en251.ms 23 lv st = st := nr rfl
theorem nc251_23 : ncOf en251.ms 23 = false := nr rfl
theorem dw251_35 (lv : Nat) (env : List V) (st : Store) (o : Option (List V × Store)) : drawR en251.ms 35 lv env st o = if lv < 1000000000000000000000000000000 then (o) else none := nr rfl
theorem kl251_35 (lv : Nat) (st : Store) : killR en251.ms 35 lv st = st := nr rfl
theorem nc251_35 : ncOf en251.ms 35 = true := nr rfl
theorem mk251_0 (vs : List V) : mask (maskOf en251.ms 0) vs = km 220 0 [0, 1, 4, 10, 11] vs := mask_mb _ _ _ _
theorem mk251_2 (vs : List V) : mask (maskOf en251.ms 2) vs = km 220 0 [0, 10, 13] vs := mask_mb _ _ _ _
theorem mk251_4 (vs : List V) : mask (maskOf en251.ms 4) vs = km 220 0 [0, 2, 4, 14, 15] vs := mask_mb _ _ _ _
theorem mk251_6 (vs : List V) : mask (maskOf en251.ms 6) vs = km 220 0 [0, 14, 17] vs := mask_mb _ _ _ _
theorem mk251_8 (vs : List V) : mask (maskOf en251.ms 8) vs = km 220 0 [0, 1, 2, 3, 4, 18, 19, 20, 21, 22] vs := mask_mb _ _ _ _
theorem mk251_1000001 (vs : List V) : mask (maskOf en251.ms 1000001) vs = km 220 0 [0, 1, 10] vs := mask_mb _ _ _ _
theorem mk251_1000002 (vs : List V) : mask (maskOf en251.ms 1000002) vs = km 220 0 [0, 1, 4, 10, 11] vs := mask_mb _ _ _ _
theorem mk251_1000003 (vs : List V) : mask (maskOf en251.ms 1000003) vs = km 220 0 [] vs := mask_mb _ _ _ _
theorem mk251_1000004 (vs : List V) : mask (maskOf en251.ms 1000004) vs = km 220 0 [0, 10, 13] vs := mask_mb _ _ _ _
theorem mk251_1000005 (vs : List V) : mask (maskOf en251.ms 1000005) vs = km 220 0 [0, 2, 14] vs := mask_mb _ _ _ _
theorem mk251_1000006 (vs : List V) : mask (maskOf en251.ms 1000006) vs = km 220 0 [0, 2, 4, 14, 15] vs := mask_mb _ _ _ _
theorem mk251_1000007 (vs : List V) : mask (maskOf en251.ms 1000007) vs = km 220 0 [] vs := mask_mb _ _ _ _
theorem mk251_1000008 (vs : List V) : mask (maskOf en251.ms 1000008) vs = km 220 0 [0, 14, 17] vs := mask_mb _ _ _ _
theorem mk251_1000009 (vs : List V) : mask (maskOf en251.ms 1000009) vs = km 220 0 [0, 1, 2, 3, 4, 18, 19, 20] vs := mask_mb _ _ _ _
theorem mk251_1000010 (vs : List V) : mask (maskOf en251.ms 1000010) vs = km 220 0 [0, 1, 2, 3, 4, 18, 19, 20, 21, 22] vs := mask_mb _ _ _ _
theorem mk251_1000000 (vs : List V) : mask (maskOf en251.ms 1000000) vs = km 220 0 [] vs := mask_mb _ _ _ _
theorem fz251_0 (lv : Nat) (f : Run) : frzF en251.ms lv 0 f = f := nr rfl
theorem fz251_2 (lv : Nat) (f : Run) : frzF en251.ms lv 2 f = f := nr rfl
theorem fz251_4 (lv : Nat) (f : Run) : frzF en251.ms lv 4 f = f := nr rfl
theorem fz251_6 (lv : Nat) (f : Run) : frzF en251.ms lv 6 f = f := nr rfl
theorem fz251_8 (lv : Nat) (f : Run) : frzF en251.ms lv 8 f = f := nr rfl
noncomputable def lb251_0 : Code := loopN Try.f251 0
noncomputable def lb251_2 : Code := loopN Try.f251 1
noncomputable def lb251_4 : Code := loopN Try.f251 2
noncomputable def lb251_6 : Code := loopN Try.f251 3
noncomputable def lb251_8 : Code := loopN Try.f251 4
end Go.Proofs.Ytnojehmbiceceaa.E
end
section
set_option linter.unusedVariables false
set_option linter.unusedSimpArgs false
set_option maxRecDepth 100000
namespace Go.Proofs.Ytnojehmbiceceaa.E
open Go.Ev
noncomputable def en252 : Entry := ⟨Try.f252, [(0, mb 76 0 [0, 2, 3, 8]), (1000001, mb 76 0 []), (1000002, mb 76 0 [0, 2, 3, 8]), (1000000, mb 76 0 [])]⟩
theorem dw252_3 (lv : Nat) (env : List V) (st : Store) (o : Option (List V × Store)) : drawR en252.ms 3 lv env st o = if lv < 1000000000000000000000000000000 then (o) else none := nr rfl
theorem kl252_3 (lv : Nat) (st : Store) : killR en252.ms 3 lv st = st := nr rfl
theorem nc252_3 : ncOf en252.ms 3 = false := nr rfl
theorem dw252_5 (lv : Nat) (env : List V) (st : Store) (o : Option (List V × Store)) : drawR en252.ms 5 lv env st o = if lv < 1000000000000000000000000000000 then (o) else none := nr rfl
theorem kl252_5 (lv : Nat) (st : Store) : killR en252.ms 5 lv st = st := nr rfl
theorem nc252_5 : ncOf en252.ms 5 = false := nr rfl
theorem dw252_6 (lv : Nat) (env : List V) (st : Store) (o : Option (List V × Store)) : drawR en252.ms 6 lv env st o = if lv < 1000000000000000000000000000000 then (o) else none := nr rfl
theorem kl252_6 (lv : Nat) (st : Store) : killR en252.ms 6 lv st = st := nr rfl
theorem nc252_6 : ncOf en252.ms 6 = false := nr rfl
theorem mk252_0 (vs : List V) : mask (maskOf en252.ms 0) vs = km 76 0 [0, 2, 3, 8] vs := mask_mb _ _ _ _
theorem mk252_1000001 (vs : List V) : mask (maskOf en252.ms 1000001) vs = km 76 0 [] vs := mask_mb _ _ _ _
theorem mk252_1000002 (vs : List V) : mask (maskOf en252.ms 1000002) vs = km 76 0 [0, 2, 3, 8] vs := mask_mb _ _ _ _
theorem mk252_1000000 (vs : List V) : mask (maskOf en252.ms 1000000) vs = km 76 0 [] vs := mask_mb _ _ _ _
theorem fz252_0 (lv : Nat) (f : Run) : frzF en252.ms lv 0 f = f := nr rfl
noncomputable def lb252_0 : Code := loopN Try.f252 0
end Go.Proofs.Ytnojehmbiceceaa.E
end
section
set_option linter.unusedVariables false
set_option linter.unusedSimpArgs false
set_option maxRecDepth 100000
namespace Go.Proofs.Ytnojehmbiceceaa.E
open Go.Ev
noncomputable def en253 : Entry := ⟨Try.f253, [(1000000, mb 7 0 [2])]⟩
theorem mk253_1000000 (vs : List V) : mask (maskOf en253.ms 1000000) vs = km 7 0 [2] vs := mask_mb _ _ _ _
end Go.Proofs.Ytnojehmbiceceaa.E
end
section
set_option linter.unusedVariables false
set_option linter.unusedSimpArgs false
set_option maxRecDepth 100000
namespace Go.Proofs.Ytnojehmbiceceaa.E
open Go.Ev
noncomputable def en254 : Entry := ⟨Try.f254, [(1000000, mb 33 0 [2])]⟩
theorem dw254_1 (lv : Nat) (env : List V) (st : Store) (o : Option (List V × Store)) : drawR en254.ms 1 lv env st o = if lv < 1000000000000000000000000000000 then (o) else none := nr rfl
theorem kl254_1 (lv : Nat) (st : Store) : killR en254.ms 1 lv st = st := nr rfl
theorem nc254_1 : ncOf en254.ms 1 = false := nr rfl
theorem dw254_2 (lv : Nat) (env : List V) (st : Store) (o : Option (List V × Store)) : drawR en254.ms 2 lv env st o = if lv < 1000000000000000000000000000000 then (o) else none := nr rfl
theorem kl254_2 (lv : Nat) (st : Store) : killR en254.ms 2 lv st = st := nr rfl
theorem nc254_2 : ncOf en254.ms 2 = false := nr rfl
theorem dw254_3 (lv : Nat) (env : List V) (st : Store) (o : Option (List V × Store)) : drawR en254.ms 3 lv env st o = if lv < 1000000000000000000000000000000 then (o) else none := nr rfl
theorem kl254_3 (lv : Nat) (st : Store) : killR en254.ms 3 lv st = st := nr rfl
theorem nc254_3 : ncOf en254.ms 3 = false := nr rfl
theorem mk254_1000000 (vs : List V) : mask (maskOf en254.ms 1000000) vs = km 33 0 [2] vs := mask_mb _ _ _ _
end Go.Proofs.Ytnojehmbiceceaa.E
end
section
set_option linter.unusedVariables false
set_option linter.unusedSimpArgs false
set_option maxRecDepth 100000
namespace Go.Proofs.Ytnojehmbiceceaa.E
open Go.Ev
noncomputable def en255 : Entry := ⟨Try.f255, [(1000000, mb 15 0 [6])]⟩
theorem mk255_1000000 (vs : List V) : mask (maskOf en255.ms 1000000) vs = km 15 0 [6] vs := mask_mb _ _ _ _
end Go.Proofs.Ytnojehmbiceceaa.E
end
section
set_option linter.unusedVariables false
set_option linter.unusedSimpArgs false
set_option maxRecDepth 100000
namespace Go.Proofs.Ytnojehmbiceceaa.E
open Go.Ev
noncomputable def en256 : Entry := ⟨Try.f256, [(1000000, mb 36 0 [10])]⟩
theorem mk256_1000000 (vs : List V) : mask (maskOf en256.ms 1000000) vs = km 36 0 [10] vs := mask_mb _ _ _ _
end Go.Proofs.Ytnojehmbiceceaa.E
end
section
set_option linter.unusedVariables false
set_option linter.unusedSimpArgs false
set_option maxRecDepth 100000
namespace Go.Proofs.Ytnojehmbiceceaa.E
open Go.Ev
noncomputable def en263 : Entry := ⟨Try.f263, [(0, mb 58 0 [0, 2, 4, 10, 11]), (1000001, mb 58 0 [0, 2, 4, 10]), (1000002, mb 58 0 [0, 2, 4, 10, 11]), (1000000, mb 58 0 [])]⟩
theorem mk263_0 (vs : List V) : mask (maskOf en263.ms 0) vs = km 58 0 [0, 2, 4, 10, 11] vs := mask_mb _ _ _ _
theorem mk263_1000001 (vs : List V) : mask (maskOf en263.ms 1000001) vs = km 58 0 [0, 2, 4, 10] vs := mask_mb _ _ _ _
theorem mk263_1000002 (vs : List V) : mask (maskOf en263.ms 1000002) vs = km 58 0 [0, 2, 4, 10, 11] vs := mask_mb _ _ _ _
theorem mk263_1000000 (vs : List V) : mask (maskOf en263.ms 1000000) vs = km 58 0 [] vs := mask_mb _ _ _ _
theorem fz263_0 (lv : Nat) (f : Run) : frzF en263.ms lv 0 f = f := nr rfl
noncomputable def lb263_0 : Code := loopN Try.f263 0
end Go.Proofs.Ytnojehmbiceceaa.E
end
section
set_option linter.unusedVariables false
set_option linter.unusedSimpArgs false
set_option maxRecDepth 100000
namespace Go.Proofs.Ytnojehmbiceceaa.E
open Go.Ev
noncomputable def en264 : Entry := ⟨Try.f264, [(1000000, mb 28 0 [8, 9])]⟩
theorem dw264_1 (lv : Nat) (env : List V) (st : Store) (o : Option (List V × Store)) : drawR en264.ms 1 lv env st o = if lv < 1000000000000000000000000000000 then (o) else none := nr rfl
theorem kl264_1 (lv : Nat) (st : Store) : killR en264.ms 1 lv st = st := nr rfl
theorem nc264_1 : ncOf en264.ms 1 = false := nr rfl
theorem mk264_1000000 (vs : List V) : mask (maskOf en264.ms 1000000) vs = km 28 0 [8, 9] vs := mask_mb _ _ _ _
end Go.Proofs.Ytnojehmbiceceaa.E
end
section
set_option linter.unusedVariables false
set_option linter.unusedSimpArgs false
set_option maxRecDepth 100000
namespace Go.Proofs.Ytnojehmbiceceaa.E
open Go.Ev
noncomputable def en267 : Entry := ⟨Try.f267, [(0, mb 38 0 [0, 1, 2, 3, 10]), (1000001, mb 38 0 []), (1000002, mb 38 0 [0, 1, 2, 3, 10]), (1000000, mb 38 0 [])]⟩
theorem dw267_3 (lv : Nat) (env : List V) (st : Store) (o : Option (List V × Store)) : drawR en267.ms 3 lv env st o = if lv < 1000000000000000000000000000000 then (o) else none := nr rfl
theorem kl267_3 (lv : Nat) (st : Store) : killR en267.ms 3 lv st = st := nr rfl
theorem nc267_3 : ncOf en267.ms 3 = false := nr rfl
theorem mk267_0 (vs : List V) : mask (maskOf en267.ms 0) vs = km 38 0 [0, 1, 2, 3, 10] vs := mask_mb _ _ _ _
theorem mk267_1000001 (vs : List V) : mask (maskOf en267.ms 1000001) vs = km 38 0 [] vs := mask_mb _ _ _ _
theorem mk267_1000002 (vs : List V) : mask (maskOf en267.ms 1000002) vs = km 38 0 [0, 1, 2, 3, 10] vs := mask_mb _ _ _ _
theorem mk267_1000000 (vs : List V) : mask (maskOf en267.ms 1000000) vs = km 38 0 [] vs := mask_mb _ _ _ _
theorem fz267_0 (lv : Nat) (f : Run) : frzF en267.ms lv 0 f = f := nr rfl
noncomputable def lb267_0 : Code := loopN Try.f267 0
end Go.Proofs.Ytnojehmbiceceaa.E
end
section
set_option linter.unusedVariables false
set_option linter.unusedSimpArgs false
set_option maxRecDepth 100000
namespace Go.Proofs.Ytnojehmbiceceaa.E
open Go.Ev
noncomputable def en174 : Entry := ⟨Try.f174, [(1000000, mb 19 0 [5])]⟩
theorem dw174_1 (lv : Nat) (env : List V) (st : Store) (o : Option (List V × Store)) : drawR en174.ms 1 lv env st o = if lv < 1000000000000000000000000000000 then (o) else none := nr rfl
theorem kl174_1 (lv : Nat) (st : Store) : killR en174.ms 1 lv st = st := nr rfl
theorem nc174_1 : ncOf en174.ms 1 = false := nr rfl
theorem mk174_1000000 (vs : List V) : mask (maskOf en174.ms 1000000) vs = km 19 0 [5] vs := mask_mb _ _ _ _
end Go.Proofs.Ytnojehmbiceceaa.E
end
section
set_option linter.unusedVariables false
set_option linter.unusedSimpArgs false
set_option maxRecDepth 100000
namespace Go.Proofs.Ytnojehmbiceceaa.E
open Go.Ev
noncomputable def en93 : Entry := ⟨Try.f93, [(1000000, mb 20 0 [4])]⟩
theorem mk93_1000000 (vs : List V) : mask (maskOf en93.ms 1000000) vs = km 20 0 [4] vs := mask_mb _ _ _ _
end Go.Proofs.Ytnojehmbiceceaa.E
end
section
set_option linter.unusedVariables false
set_option linter.unusedSimpArgs false
set_option maxRecDepth 100000
namespace Go.Proofs.Ytnojehmbiceceaa.E
open Go.Ev
noncomputable def en175 : Entry := ⟨Try.f175, [(1000000, mb 6 0 [2])]⟩
theorem mk175_1000000 (vs : List V) : mask (maskOf en175.ms 1000000) vs = km 6 0 [2] vs := mask_mb _ _ _ _
end Go.Proofs.Ytnojehmbiceceaa.E
end
section
set_option linter.unusedVariables false
set_option linter.unusedSimpArgs false
set_option maxRecDepth 100000
namespace Go.Proofs.Ytnojehmbiceceaa.P
open Go.Ev Go.IntKind Go.Proofs.Ytnojehmbiceceaa Go.Proofs.Ytnojehmbiceceaa.Ty Go.Proofs.Ytnojehmbiceceaa.E
def p_cmp_isNaN_Quanta (L : Nat) (a0 : Int) : Option Bool := some (!(decide (a0 = a0)))
attribute [local go_sem] Ev.putR_s Ev.putR_0 Ev.thenO_s Ev.thenO_0 Ev.seqR_n Ev.seqR_e Ev.seqR_r Ev.seqR_0 Ev.blkR_e Ev.blkR_n Ev.blkR_r Ev.blkR_0 Ev.normR_s Ev.normR_0 Ev.outR_r Ev.outR_n Ev.outR_0 Ev.retS_s Ev.retS_0 Ev.pureO_s Ev.pureO_0 Ev.topR_0 Ev.topR_t Ev.topR_t0 Ev.oneL_0 Ev.oneL_s Ev.topR_d Ev.topR_nils Ev.topR_agg Ev.topR_rs Ev.evOp_move Ev.evOp_assign Ev.evOp_pick Ev.evOp_alloc Ev.evOp_box Ev.evOp_build Ev.evOp_buildSlice Ev.evOp_load Ev.evOp_store Ev.evOp_makeMap Ev.evOp_lookup Ev.evOp_mapUpdate Ev.evOp_insert Ev.evOp_nilCheck Ev.evOp_binOp Ev.evOp_unOp Ev.evOp_convert Ev.evOp_makeFunc Ev.evOp_makeSlice Ev.evOp_slice Ev.evOp_fieldAddr Ev.evOp_field Ev.evOp_indexAddr Ev.evOp_index Ev.evOp_extract Ev.evOp_call Ev.evOp_append Ev.evOp_clear Ev.evOp_len Ev.evOp_min Ev.evOp_max Ev.condR_b Ev.condR_t Ev.evOps_nil Ev.evOps_plain Ev.evOps_guard Ev.runG_eq Ev.skipG_eq Ev.condL_tt Ev.condL_ff Ev.condL_tf Ev.condL_ft Ev.condL_u Ev.condC_t Ev.condC_f Ev.evC_skip Ev.evC_ret Ev.evC_exit Ev.evC_label Ev.evC_region Ev.evC_draw Ev.evC_seq Ev.evC_cond Ev.evC_block Ev.evC_loop Ev.fin_d Ev.fin_nils Ev.fin_agg_ Ev.fin_rs Ev.finS_s Ev.mapO_fin Ev.upd_upd Ev.argv_d Ev.argv_nils Ev.argv_agg Ev.argv_rs Ev.argv_p Ev.fk_low Ev.appendTo_nils Ev.appendTo_rs Ev.consV_d Ev.consV_agg Ev.consV_p Ev.consV_rs Ev.consV_nils Ev.consV_fn Ev.consV_und Ev.consV_jk Ev.consV_grown Ev.topR_grown Ev.len_grown Ev.consV_mp Ev.sameK_i Ev.sameK_s Ev.mget_0 Ev.mget_hit Ev.mget_miss Ev.mput_0 Ev.mput_hit Ev.mput_miss Ev.apartAll Ev.apartL Ev.apartV Ev.freeAll Ev.sel Ev.keyOfV Ev.evLookup Ev.evPut Ev.hintOk Ev.keyOk Ev.consP Ev.lookV Ev.guardV Ev.dstAt Ev.evPure Ev.evStore Ev.evBin Ev.evBinO Ev.evNil Ev.isNilC Ev.evUn Ev.evConv Ev.evSlice Ev.optI Ev.foldI Ev.capsOk Ev.noTup Ev.nth Ev.setN Ev.killAt Ev.pad Ev.V.get Ev.V.put Ev.putD Ev.newBlk Ev.upd Ev.keq Ev.empty Ev.evCall Ev.V.args Ev.argP Ev.callOf Ev.evNilP Ev.isNilP Ev.look Ev.V.view.views Ev.V.view Ev.V.toD Ev.V.toD.V.toDs Ev.V.pure.pures Ev.V.pure Ev.D.flat.flats Ev.D.flat Ev.mkAgg Ev.allD Ev.aggParts Ev.setParts Ev.setElems Ev.getPath Ev.setPath Ev.subL Ev.eqD Ev.eqD.eqDs Ev.and2 Ev.strCut Ev.evalT Ev.constT Ev.evArgs Ev.mask Ev.maskOf Ev.tableOf Ev.compT Ev.resV Ev.retV Ev.mapO Ev.frzO_n Ev.frzO_e Ev.frzO_r Ev.frzO_0 Ev.mb_z Ev.mb_0 Ev.mb_s Ev.frzL_t Ev.frzL_f Ev.frzL_0 Ev.frzT_nils Ev.frzT_rs Ev.frzT_p Ev.frzK_i Ev.keyIn_i Ev.rI_nil Ev.rI_cons Ev.rI_row Ev.rI_app Ev.r_d Ev.r_nils Ev.r_agg Ev.r_rs Ev.r_gl Ev.vw_row Ev.vw_app Ev.appO_s Ev.frzT_gl Ev.allD_gl Ev.killAt_i Ev.tkOne_i Ev.hT_agg Ev.hT_vagg Ev.hT_int Ev.hT_bool Ev.hT_str Ev.hT_sl Ev.hT_ptr Ev.hT_np Ev.hT_p Ev.hT_rs Ev.hT_mp Ev.hT_nils Ev.hT_fn Ev.hT_jk Ev.hT_gl Ev.eO_sl Ev.eO_nils Ev.eO_rs Ev.eT_sl Ev.eT_rs Ev.pL_str Ev.pL_sl Ev.pL_rs Ev.pL_nils Ev.pL_min Ev.pL_max Ev.len_glB Ev.noTup_gl Ev.rowV_len Ev.rowV_nil Ev.rowV_cons Ev.rowV_append Ev.rowV_set Ev.rowV_replicate Ev.nth_row Ev.row_take Ev.row_drop Ev.toDs_row Ev.fin_row Ev.map_row Ev.map_take_ Ev.map_drop_ Ev.Bk_i Ev.GlB_0 Ev.GlB_mk Ev.gl_nil Ev.gl_cons Ev.gl_snoc Ev.gl_setN Ev.appendTo_gl Ev.consV_gl Ev.elems_gl Ev.fin_gl Ev.view_gl Ev.argv_gl Ev.topR_gl Ev.sp_z Ev.sp_0 Ev.sp_s Ev.km_z Ev.km_0 Ev.km_s Ev.beq_toList Ev.nc0 Ev.bq_t Ev.bq_f Ev.bodyN Ev.le_maxRow Int.cast_ofNat_Int IntWalk.i64_in IntWalk.u64_in IntWalk.u8_in beq_self_eq_true Bool.true_beq Bool.false_beq Bool.and_true Bool.true_and Bool.false_and Bool.and_false Bool.and_self Bool.not_true Bool.not_false Bool.not_eq_true cond_true cond_false if_true if_false and_true true_and and_self decide_true decide_false Bool.or_true Bool.true_or Bool.or_false Bool.false_or List.isEmpty List.isEmpty_nil List.size_toArray List.map List.length_map List.length_cons List.length_nil Option.map Option.bind Option.getD Option.isSome List.replicate Bool.false_eq_true implies_true false_implies forall_const Array.toList Array.isEmpty List.append List.nil_append List.cons_append List.drop_zero List.take_length List.take_succ_cons List.take_zero List.take_nil List.getElem?_map List.getElem?_cons_zero List.getElem?_cons_succ List.getElem?_nil List.append_nil eq_self Int.toNat_natCast List.length_append Nat.zero_add Nat.add_zero List.length_replicate Nat.sub_zero Option.map_some Option.map_none Int.le_refl Nat.le_refl Int.natCast_nonneg List.map_append
noncomputable def G_cmp_isNaN_Quanta (L : Nat) : Specs := []
noncomputable def T_cmp_isNaN_Quanta : Table := tableOf [(175, en175)]
theorem Go_cmp_isNaN_Quanta (L : Nat) (hL : L ≤ 4611686018427387904) : ∀ g s, Ev.look (G_cmp_isNaN_Quanta L) g = some s → SpecOk Try.prog g s := specs_nil
theorem To_cmp_isNaN_Quanta (L : Nat) : TableOk Try.prog ((G_cmp_isNaN_Quanta L).map (·.1)) T_cmp_isNaN_Quanta := (table_cons Try.func175 (by kernel_rfl) (by kernel_rfl) table_nil)
attribute [local go_sem] Ty.tk4 Ty.ub4 Ty.ek4 Ty.zv4 Ty.by4 Ty.so4 Ty.tk24 Ty.ik24 Ty.ek24 Ty.zv24 Ty.by24 Ty.so24 E.mk175_1000000 loopN loops Try.f175
theorem e_cmp_isNaN_Quanta (L : Nat) (hL : L ≤ 4611686018427387904) (a0 : Int) (res : Bool) (h : p_cmp_isNaN_Quanta L a0 = some res) : evTop Try.prog (G_cmp_isNaN_Quanta L) T_cmp_isNaN_Quanta L 1 175 [.int .i64 a0] = some [.bool res] := by
  revert h
  unfold p_cmp_isNaN_Quanta evTop
  simp only [List.map]
  rw [evF_s (fn := Try.f175) (msk := en175.ms) (hT := by rfl) (hb := by rfl)]
  rintro ⟨⟩
  simp only [go_sem, Nat.reduceAdd, Nat.reduceSub, Nat.reduceMul, Nat.reduceEqDiff, Nat.reduceBEq, Nat.reduceLT, Nat.reduceLeDiff, Nat.reducePow, Int.reduceToNat, Int.reduceLT, Int.reduceLE, Int.reduceGT, Int.reduceGE, Int.reduceEq, Int.reduceNeg, Int.reduceAdd, Int.reduceSub, Int.reduceMul, ↓reduceIte, reduceCtorEq, *]
noncomputable def s_cmp_isNaN_Quanta (L : Nat) : Ev.Spec := specP (cCons (cI .i64) cNil) (fun x => p_cmp_isNaN_Quanta L x.1) (fun r => [.bool r])
theorem s_cmp_isNaN_Quanta_run (L : Nat) (a0 : Int) : (s_cmp_isNaN_Quanta L).run [.int .i64 a0] = (p_cmp_isNaN_Quanta L a0).map fun r => [.bool r] := specP_run (cCons (cI .i64) cNil) (fun x => p_cmp_isNaN_Quanta L x.1) (fun r => [.bool r]) (a0, ())
theorem ok_cmp_isNaN_Quanta (L : Nat) (hL : L ≤ 4611686018427387904) : SpecOk Try.prog 175 (s_cmp_isNaN_Quanta L) := specP_ok mixed (Go_cmp_isNaN_Quanta L hL) (To_cmp_isNaN_Quanta L) fun x r h => ⟨L, 1, e_cmp_isNaN_Quanta L hL x.1 r h⟩
end Go.Proofs.Ytnojehmbiceceaa.P
end
section
set_option linter.unusedVariables false
set_option linter.unusedSimpArgs false
set_option maxRecDepth 100000
namespace Go.Proofs.Ytnojehmbiceceaa.P
open Go.Ev Go.IntKind Go.Proofs.Ytnojehmbiceceaa Go.Proofs.Ytnojehmbiceceaa.Ty Go.Proofs.Ytnojehmbiceceaa.E
def p_cmp_Compare_Quanta (L : Nat) (a0 : Int) (a1 : Int) : Option Int := bnd (p_cmp_isNaN_Quanta L a0) fun r1 => bnd (p_cmp_isNaN_Quanta L a1) fun r2 => cb r1 (cb r2 (some 0) (some (-1))) (cb r2 (some 1) (if a0 < a1 then (some (-1)) else (if a0 > a1 then (some 1) else (some 0))))
attribute [local go_sem] Ev.putR_s Ev.putR_0 Ev.thenO_s Ev.thenO_0 Ev.seqR_n Ev.seqR_e Ev.seqR_r Ev.seqR_0 Ev.blkR_e Ev.blkR_n Ev.blkR_r Ev.blkR_0 Ev.normR_s Ev.normR_0 Ev.outR_r Ev.outR_n Ev.outR_0 Ev.retS_s Ev.retS_0 Ev.pureO_s Ev.pureO_0 Ev.topR_0 Ev.topR_t Ev.topR_t0 Ev.oneL_0 Ev.oneL_s Ev.topR_d Ev.topR_nils Ev.topR_agg Ev.topR_rs Ev.evOp_move Ev.evOp_assign Ev.evOp_pick Ev.evOp_alloc Ev.evOp_box Ev.evOp_build Ev.evOp_buildSlice Ev.evOp_load Ev.evOp_store Ev.evOp_makeMap Ev.evOp_lookup Ev.evOp_mapUpdate Ev.evOp_insert Ev.evOp_nilCheck Ev.evOp_binOp Ev.evOp_unOp Ev.evOp_convert Ev.evOp_makeFunc Ev.evOp_makeSlice Ev.evOp_slice Ev.evOp_fieldAddr Ev.evOp_field Ev.evOp_indexAddr Ev.evOp_index Ev.evOp_extract Ev.evOp_call Ev.evOp_append Ev.evOp_clear Ev.evOp_len Ev.evOp_min Ev.evOp_max Ev.condR_b Ev.condR_t Ev.evOps_nil Ev.evOps_plain Ev.evOps_guard Ev.runG_eq Ev.skipG_eq Ev.condL_tt Ev.condL_ff Ev.condL_tf Ev.condL_ft Ev.condL_u Ev.condC_t Ev.condC_f Ev.evC_skip Ev.evC_ret Ev.evC_exit Ev.evC_label Ev.evC_region Ev.evC_draw Ev.evC_seq Ev.evC_cond Ev.evC_block Ev.evC_loop Ev.fin_d Ev.fin_nils Ev.fin_agg_ Ev.fin_rs Ev.finS_s Ev.mapO_fin Ev.upd_upd Ev.argv_d Ev.argv_nils Ev.argv_agg Ev.argv_rs Ev.argv_p Ev.fk_low Ev.appendTo_nils Ev.appendTo_rs Ev.consV_d Ev.consV_agg Ev.consV_p Ev.consV_rs Ev.consV_nils Ev.consV_fn Ev.consV_und Ev.consV_jk Ev.consV_grown Ev.topR_grown Ev.len_grown Ev.consV_mp Ev.sameK_i Ev.sameK_s Ev.mget_0 Ev.mget_hit Ev.mget_miss Ev.mput_0 Ev.mput_hit Ev.mput_miss Ev.apartAll Ev.apartL Ev.apartV Ev.freeAll Ev.sel Ev.keyOfV Ev.evLookup Ev.evPut Ev.hintOk Ev.keyOk Ev.consP Ev.lookV Ev.guardV Ev.dstAt Ev.evPure Ev.evStore Ev.evBin Ev.evBinO Ev.evNil Ev.isNilC Ev.evUn Ev.evConv Ev.evSlice Ev.optI Ev.foldI Ev.capsOk Ev.noTup Ev.nth Ev.setN Ev.killAt Ev.pad Ev.V.get Ev.V.put Ev.putD Ev.newBlk Ev.upd Ev.keq Ev.empty Ev.evCall Ev.V.args Ev.argP Ev.callOf Ev.evNilP Ev.isNilP Ev.look Ev.V.view.views Ev.V.view Ev.V.toD Ev.V.toD.V.toDs Ev.V.pure.pures Ev.V.pure Ev.D.flat.flats Ev.D.flat Ev.mkAgg Ev.allD Ev.aggParts Ev.setParts Ev.setElems Ev.getPath Ev.setPath Ev.subL Ev.eqD Ev.eqD.eqDs Ev.and2 Ev.strCut Ev.evalT Ev.constT Ev.evArgs Ev.mask Ev.maskOf Ev.tableOf Ev.compT Ev.resV Ev.retV Ev.mapO Ev.frzO_n Ev.frzO_e Ev.frzO_r Ev.frzO_0 Ev.mb_z Ev.mb_0 Ev.mb_s Ev.frzL_t Ev.frzL_f Ev.frzL_0 Ev.frzT_nils Ev.frzT_rs Ev.frzT_p Ev.frzK_i Ev.keyIn_i Ev.rI_nil Ev.rI_cons Ev.rI_row Ev.rI_app Ev.r_d Ev.r_nils Ev.r_agg Ev.r_rs Ev.r_gl Ev.vw_row Ev.vw_app Ev.appO_s Ev.frzT_gl Ev.allD_gl Ev.killAt_i Ev.tkOne_i Ev.hT_agg Ev.hT_vagg Ev.hT_int Ev.hT_bool Ev.hT_str Ev.hT_sl Ev.hT_ptr Ev.hT_np Ev.hT_p Ev.hT_rs Ev.hT_mp Ev.hT_nils Ev.hT_fn Ev.hT_jk Ev.hT_gl Ev.eO_sl Ev.eO_nils Ev.eO_rs Ev.eT_sl Ev.eT_rs Ev.pL_str Ev.pL_sl Ev.pL_rs Ev.pL_nils Ev.pL_min Ev.pL_max Ev.len_glB Ev.noTup_gl Ev.rowV_len Ev.rowV_nil Ev.rowV_cons Ev.rowV_append Ev.rowV_set Ev.rowV_replicate Ev.nth_row Ev.row_take Ev.row_drop Ev.toDs_row Ev.fin_row Ev.map_row Ev.map_take_ Ev.map_drop_ Ev.Bk_i Ev.GlB_0 Ev.GlB_mk Ev.gl_nil Ev.gl_cons Ev.gl_snoc Ev.gl_setN Ev.appendTo_gl Ev.consV_gl Ev.elems_gl Ev.fin_gl Ev.view_gl Ev.argv_gl Ev.topR_gl Ev.sp_z Ev.sp_0 Ev.sp_s Ev.km_z Ev.km_0 Ev.km_s Ev.beq_toList Ev.nc0 Ev.bq_t Ev.bq_f Ev.bodyN Ev.le_maxRow Int.cast_ofNat_Int IntWalk.i64_in IntWalk.u64_in IntWalk.u8_in beq_self_eq_true Bool.true_beq Bool.false_beq Bool.and_true Bool.true_and Bool.false_and Bool.and_false Bool.and_self Bool.not_true Bool.not_false Bool.not_eq_true cond_true cond_false if_true if_false and_true true_and and_self decide_true decide_false Bool.or_true Bool.true_or Bool.or_false Bool.false_or List.isEmpty List.isEmpty_nil List.size_toArray List.map List.length_map List.length_cons List.length_nil Option.map Option.bind Option.getD Option.isSome List.replicate Bool.false_eq_true implies_true false_implies forall_const Array.toList Array.isEmpty List.append List.nil_append List.cons_append List.drop_zero List.take_length List.take_succ_cons List.take_zero List.take_nil List.getElem?_map List.getElem?_cons_zero List.getElem?_cons_succ List.getElem?_nil List.append_nil eq_self Int.toNat_natCast List.length_append Nat.zero_add Nat.add_zero List.length_replicate Nat.sub_zero Option.map_some Option.map_none Int.le_refl Nat.le_refl Int.natCast_nonneg List.map_append
noncomputable def G_cmp_Compare_Quanta (L : Nat) : Specs := [(175, s_cmp_isNaN_Quanta L)]
noncomputable def T_cmp_Compare_Quanta : Table := tableOf [(93, en93)]
theorem Go_cmp_Compare_Quanta (L : Nat) (hL : L ≤ 4611686018427387904) : ∀ g s, Ev.look (G_cmp_Compare_Quanta L) g = some s → SpecOk Try.prog g s := (specs_cons (ok_cmp_isNaN_Quanta L hL) specs_nil)
theorem To_cmp_Compare_Quanta (L : Nat) : TableOk Try.prog ((G_cmp_Compare_Quanta L).map (·.1)) T_cmp_Compare_Quanta := (table_cons Try.func93 (by kernel_rfl) (by kernel_rfl) table_nil)
theorem lk_cmp_Compare_Quanta_175 (L : Nat) : Ev.look (G_cmp_Compare_Quanta L) 175 = some (s_cmp_isNaN_Quanta L) := nr rfl
attribute [local go_sem] Ty.tk3 Ty.ik3 Ty.ek3 Ty.zv3 Ty.by3 Ty.so3 Ty.tk4 Ty.ub4 Ty.ek4 Ty.zv4 Ty.by4 Ty.so4 Ty.tk24 Ty.ik24 Ty.ek24 Ty.zv24 Ty.by24 Ty.so24 E.mk93_1000000 lk_cmp_Compare_Quanta_175 s_cmp_isNaN_Quanta_run loopN loops Try.f93
theorem e_cmp_Compare_Quanta (L : Nat) (hL : L ≤ 4611686018427387904) (a0 : Int) (a1 : Int) (res : Int) (h : p_cmp_Compare_Quanta L a0 a1 = some res) : evTop Try.prog (G_cmp_Compare_Quanta L) T_cmp_Compare_Quanta L 1 93 [.int .i64 a0, .int .i64 a1] = some [.int .i64 res] := by
  revert h
  unfold p_cmp_Compare_Quanta evTop
  simp only [List.map]
  rw [evF_s (fn := Try.f93) (msk := en93.ms) (hT := by rfl) (hb := by rfl)]
  refine bnd_i fun r1 c1 => ?_
  refine bnd_i fun r2 c2 => ?_
  refine cb_i (fun c3 => ?_) (fun c3 => ?_)
  · refine cb_i (fun c4 => ?_) (fun c4 => ?_)
    · rintro ⟨⟩
      simp only [go_sem, Nat.reduceAdd, Nat.reduceSub, Nat.reduceMul, Nat.reduceEqDiff, Nat.reduceBEq, Nat.reduceLT, Nat.reduceLeDiff, Nat.reducePow, Int.reduceToNat, Int.reduceLT, Int.reduceLE, Int.reduceGT, Int.reduceGE, Int.reduceEq, Int.reduceNeg, Int.reduceAdd, Int.reduceSub, Int.reduceMul, ↓reduceIte, reduceCtorEq, *]
    · rintro ⟨⟩
      simp only [go_sem, Nat.reduceAdd, Nat.reduceSub, Nat.reduceMul, Nat.reduceEqDiff, Nat.reduceBEq, Nat.reduceLT, Nat.reduceLeDiff, Nat.reducePow, Int.reduceToNat, Int.reduceLT, Int.reduceLE, Int.reduceGT, Int.reduceGE, Int.reduceEq, Int.reduceNeg, Int.reduceAdd, Int.reduceSub, Int.reduceMul, ↓reduceIte, reduceCtorEq, *]
  · refine cb_i (fun c5 => ?_) (fun c5 => ?_)
    · rintro ⟨⟩
      simp only [go_sem, Nat.reduceAdd, Nat.reduceSub, Nat.reduceMul, Nat.reduceEqDiff, Nat.reduceBEq, Nat.reduceLT, Nat.reduceLeDiff, Nat.reducePow, Int.reduceToNat, Int.reduceLT, Int.reduceLE, Int.reduceGT, Int.reduceGE, Int.reduceEq, Int.reduceNeg, Int.reduceAdd, Int.reduceSub, Int.reduceMul, ↓reduceIte, reduceCtorEq, *]
    · refine ite_i (fun c6 => ?_) (fun c6 => ?_)
      · rintro ⟨⟩
        simp only [go_sem, Nat.reduceAdd, Nat.reduceSub, Nat.reduceMul, Nat.reduceEqDiff, Nat.reduceBEq, Nat.reduceLT, Nat.reduceLeDiff, Nat.reducePow, Int.reduceToNat, Int.reduceLT, Int.reduceLE, Int.reduceGT, Int.reduceGE, Int.reduceEq, Int.reduceNeg, Int.reduceAdd, Int.reduceSub, Int.reduceMul, ↓reduceIte, reduceCtorEq, *]
      · refine ite_i (fun c7 => ?_) (fun c7 => ?_)
        · rintro ⟨⟩
          simp only [go_sem, Nat.reduceAdd, Nat.reduceSub, Nat.reduceMul, Nat.reduceEqDiff, Nat.reduceBEq, Nat.reduceLT, Nat.reduceLeDiff, Nat.reducePow, Int.reduceToNat, Int.reduceLT, Int.reduceLE, Int.reduceGT, Int.reduceGE, Int.reduceEq, Int.reduceNeg, Int.reduceAdd, Int.reduceSub, Int.reduceMul, ↓reduceIte, reduceCtorEq, *]
        · rintro ⟨⟩
          simp only [go_sem, Nat.reduceAdd, Nat.reduceSub, Nat.reduceMul, Nat.reduceEqDiff, Nat.reduceBEq, Nat.reduceLT, Nat.reduceLeDiff, Nat.reducePow, Int.reduceToNat, Int.reduceLT, Int.reduceLE, Int.reduceGT, Int.reduceGE, Int.reduceEq, Int.reduceNeg, Int.reduceAdd, Int.reduceSub, Int.reduceMul, ↓reduceIte, reduceCtorEq, *]
noncomputable def s_cmp_Compare_Quanta (L : Nat) : Ev.Spec := specP (cCons (cI .i64) (cCons (cI .i64) cNil)) (fun x => p_cmp_Compare_Quanta L x.1 x.2.1) (fun r => [.int .i64 r])
theorem s_cmp_Compare_Quanta_run (L : Nat) (a0 : Int) (a1 : Int) : (s_cmp_Compare_Quanta L).run [.int .i64 a0, .int .i64 a1] = (p_cmp_Compare_Quanta L a0 a1).map fun r => [.int .i64 r] := specP_run (cCons (cI .i64) (cCons (cI .i64) cNil)) (fun x => p_cmp_Compare_Quanta L x.1 x.2.1) (fun r => [.int .i64 r]) (a0, a1, ())
theorem ok_cmp_Compare_Quanta (L : Nat) (hL : L ≤ 4611686018427387904) : SpecOk Try.prog 93 (s_cmp_Compare_Quanta L) := specP_ok mixed (Go_cmp_Compare_Quanta L hL) (To_cmp_Compare_Quanta L) fun x r h => ⟨L, 1, e_cmp_Compare_Quanta L hL x.1 x.2.1 r h⟩
end Go.Proofs.Ytnojehmbiceceaa.P
end
section
set_option linter.unusedVariables false
set_option linter.unusedSimpArgs false
set_option maxRecDepth 100000
namespace Go.Proofs.Ytnojehmbiceceaa.P
open Go.Ev Go.IntKind Go.Proofs.Ytnojehmbiceceaa Go.Proofs.Ytnojehmbiceceaa.Ty Go.Proofs.Ytnojehmbiceceaa.E
def p_level_known_1 (L : Nat) (a0 : Int) (a1 : Int) (a2_0 : Int) (a2_1 : Int) (a2_2 : List (Int × Int × Bool × Unit)) : Option Int := bnd (idx a2_2 a0) fun x1 => bnd (idx a2_2 a1) fun x2 => bnd (p_cmp_Compare_Quanta L x1.1 x2.1) fun r3 => some r3
attribute [local go_sem] Ev.putR_s Ev.putR_0 Ev.thenO_s Ev.thenO_0 Ev.seqR_n Ev.seqR_e Ev.seqR_r Ev.seqR_0 Ev.blkR_e Ev.blkR_n Ev.blkR_r Ev.blkR_0 Ev.normR_s Ev.normR_0 Ev.outR_r Ev.outR_n Ev.outR_0 Ev.retS_s Ev.retS_0 Ev.pureO_s Ev.pureO_0 Ev.topR_0 Ev.topR_t Ev.topR_t0 Ev.oneL_0 Ev.oneL_s Ev.topR_d Ev.topR_nils Ev.topR_agg Ev.topR_rs Ev.evOp_move Ev.evOp_assign Ev.evOp_pick Ev.evOp_alloc Ev.evOp_box Ev.evOp_build Ev.evOp_buildSlice Ev.evOp_load Ev.evOp_store Ev.evOp_makeMap Ev.evOp_lookup Ev.evOp_mapUpdate Ev.evOp_insert Ev.evOp_nilCheck Ev.evOp_binOp Ev.evOp_unOp Ev.evOp_convert Ev.evOp_makeFunc Ev.evOp_makeSlice Ev.evOp_slice Ev.evOp_fieldAddr Ev.evOp_field Ev.evOp_indexAddr Ev.evOp_index Ev.evOp_extract Ev.evOp_call Ev.evOp_append Ev.evOp_clear Ev.evOp_len Ev.evOp_min Ev.evOp_max Ev.condR_b Ev.condR_t Ev.evOps_nil Ev.evOps_plain Ev.evOps_guard Ev.runG_eq Ev.skipG_eq Ev.condL_tt Ev.condL_ff Ev.condL_tf Ev.condL_ft Ev.condL_u Ev.condC_t Ev.condC_f Ev.evC_skip Ev.evC_ret Ev.evC_exit Ev.evC_label Ev.evC_region Ev.evC_draw Ev.evC_seq Ev.evC_cond Ev.evC_block Ev.evC_loop Ev.fin_d Ev.fin_nils Ev.fin_agg_ Ev.fin_rs Ev.finS_s Ev.mapO_fin Ev.upd_upd Ev.argv_d Ev.argv_nils Ev.argv_agg Ev.argv_rs Ev.argv_p Ev.fk_low Ev.appendTo_nils Ev.appendTo_rs Ev.consV_d Ev.consV_agg Ev.consV_p Ev.consV_rs Ev.consV_nils Ev.consV_fn Ev.consV_und Ev.consV_jk Ev.consV_grown Ev.topR_grown Ev.len_grown Ev.consV_mp Ev.sameK_i Ev.sameK_s Ev.mget_0 Ev.mget_hit Ev.mget_miss Ev.mput_0 Ev.mput_hit Ev.mput_miss Ev.apartAll Ev.apartL Ev.apartV Ev.freeAll Ev.sel Ev.keyOfV Ev.evLookup Ev.evPut Ev.hintOk Ev.keyOk Ev.consP Ev.lookV Ev.guardV Ev.dstAt Ev.evPure Ev.evStore Ev.evBin Ev.evBinO Ev.evNil Ev.isNilC Ev.evUn Ev.evConv Ev.evSlice Ev.optI Ev.foldI Ev.capsOk Ev.noTup Ev.nth Ev.setN Ev.killAt Ev.pad Ev.V.get Ev.V.put Ev.putD Ev.newBlk Ev.upd Ev.keq Ev.empty Ev.evCall Ev.V.args Ev.argP Ev.callOf Ev.evNilP Ev.isNilP Ev.look Ev.V.view.views Ev.V.view Ev.V.toD Ev.V.toD.V.toDs Ev.V.pure.pures Ev.V.pure Ev.D.flat.flats Ev.D.flat Ev.mkAgg Ev.allD Ev.aggParts Ev.setParts Ev.setElems Ev.getPath Ev.setPath Ev.subL Ev.eqD Ev.eqD.eqDs Ev.and2 Ev.strCut Ev.evalT Ev.constT Ev.evArgs Ev.mask Ev.maskOf Ev.tableOf Ev.compT Ev.resV Ev.retV Ev.mapO Ev.frzO_n Ev.frzO_e Ev.frzO_r Ev.frzO_0 Ev.mb_z Ev.mb_0 Ev.mb_s Ev.frzL_t Ev.frzL_f Ev.frzL_0 Ev.frzT_nils Ev.frzT_rs Ev.frzT_p Ev.frzK_i Ev.keyIn_i Ev.rI_nil Ev.rI_cons Ev.rI_row Ev.rI_app Ev.r_d Ev.r_nils Ev.r_agg Ev.r_rs Ev.r_gl Ev.vw_row Ev.vw_app Ev.appO_s Ev.frzT_gl Ev.allD_gl Ev.killAt_i Ev.tkOne_i Ev.hT_agg Ev.hT_vagg Ev.hT_int Ev.hT_bool Ev.hT_str Ev.hT_sl Ev.hT_ptr Ev.hT_np Ev.hT_p Ev.hT_rs Ev.hT_mp Ev.hT_nils Ev.hT_fn Ev.hT_jk Ev.hT_gl Ev.eO_sl Ev.eO_nils Ev.eO_rs Ev.eT_sl Ev.eT_rs Ev.pL_str Ev.pL_sl Ev.pL_rs Ev.pL_nils Ev.pL_min Ev.pL_max Ev.len_glB Ev.noTup_gl Ev.rowV_len Ev.rowV_nil Ev.rowV_cons Ev.rowV_append Ev.rowV_set Ev.rowV_replicate Ev.nth_row Ev.row_take Ev.row_drop Ev.toDs_row Ev.fin_row Ev.map_row Ev.map_take_ Ev.map_drop_ Ev.Bk_i Ev.GlB_0 Ev.GlB_mk Ev.gl_nil Ev.gl_cons Ev.gl_snoc Ev.gl_setN Ev.appendTo_gl Ev.consV_gl Ev.elems_gl Ev.fin_gl Ev.view_gl Ev.argv_gl Ev.topR_gl Ev.sp_z Ev.sp_0 Ev.sp_s Ev.km_z Ev.km_0 Ev.km_s Ev.beq_toList Ev.nc0 Ev.bq_t Ev.bq_f Ev.bodyN Ev.le_maxRow Int.cast_ofNat_Int IntWalk.i64_in IntWalk.u64_in IntWalk.u8_in beq_self_eq_true Bool.true_beq Bool.false_beq Bool.and_true Bool.true_and Bool.false_and Bool.and_false Bool.and_self Bool.not_true Bool.not_false Bool.not_eq_true cond_true cond_false if_true if_false and_true true_and and_self decide_true decide_false Bool.or_true Bool.true_or Bool.or_false Bool.false_or List.isEmpty List.isEmpty_nil List.size_toArray List.map List.length_map List.length_cons List.length_nil Option.map Option.bind Option.getD Option.isSome List.replicate Bool.false_eq_true implies_true false_implies forall_const Array.toList Array.isEmpty List.append List.nil_append List.cons_append List.drop_zero List.take_length List.take_succ_cons List.take_zero List.take_nil List.getElem?_map List.getElem?_cons_zero List.getElem?_cons_succ List.getElem?_nil List.append_nil eq_self Int.toNat_natCast List.length_append Nat.zero_add Nat.add_zero List.length_replicate Nat.sub_zero Option.map_some Option.map_none Int.le_refl Nat.le_refl Int.natCast_nonneg List.map_append
noncomputable def G_level_known_1 (L : Nat) : Specs := [(93, s_cmp_Compare_Quanta L)]
noncomputable def T_level_known_1 : Table := tableOf [(174, en174)]
theorem Go_level_known_1 (L : Nat) (hL : L ≤ 4611686018427387904) : ∀ g s, Ev.look (G_level_known_1 L) g = some s → SpecOk Try.prog g s := (specs_cons (ok_cmp_Compare_Quanta L hL) specs_nil)
theorem To_level_known_1 (L : Nat) : TableOk Try.prog ((G_level_known_1 L).map (·.1)) T_level_known_1 := (table_cons Try.func174 (by kernel_rfl) (by kernel_rfl) table_nil)
theorem lk_level_known_1_93 (L : Nat) : Ev.look (G_level_known_1 L) 93 = some (s_cmp_Compare_Quanta L) := nr rfl
attribute [local go_sem] Ty.tk3 Ty.ik3 Ty.ek3 Ty.zv3 Ty.by3 Ty.so3 Ty.tk4 Ty.ub4 Ty.ek4 Ty.zv4 Ty.by4 Ty.so4 Ty.tk24 Ty.ik24 Ty.ek24 Ty.zv24 Ty.by24 Ty.so24 Ty.tk35 Ty.ct35 Ty.ek35 Ty.zv35 Ty.by35 Ty.so35 Ty.tk43 Ty.zv43 Ty.by43 Ty.so43 Ty.tk45 Ty.ct45 Ty.zv45 Ty.by45 Ty.so45 Ty.k35_e Ty.k43_e Ty.k45_e E.dw174_1 E.kl174_1 E.nc174_1 E.mk174_1000000 lk_level_known_1_93 s_cmp_Compare_Quanta_run loopN loops Try.f174
theorem e_level_known_1 (L : Nat) (hL : L ≤ 4611686018427387904) (a0 : Int) (a1 : Int) (a2_0 : Int) (a2_1 : Int) (a2_2 : List (Int × Int × Bool × Unit)) (res : Int) (h : p_level_known_1 L a0 a1 a2_0 a2_1 a2_2 = some res) : evTop Try.prog (G_level_known_1 L) T_level_known_1 L 1 174 [.int .i64 a0, .int .i64 a1, .ptr (.agg 45 [.int .i64 a2_0, .int .i64 a2_1, .sl 35 (a2_2.map k35.e)])] = some [.int .i64 res] := by
  revert h
  unfold p_level_known_1 evTop
  simp only [List.map]
  rw [evF_s (fn := Try.f174) (msk := en174.ms) (hT := by rfl) (hb := by rfl)]
  refine idx_i fun x1 c1 c2 c3 => ?_
  refine idx_i fun x2 c4 c5 c6 => ?_
  refine bnd_i fun r3 c7 => ?_
  rintro ⟨⟩
  simp only [go_sem, Nat.reduceAdd, Nat.reduceSub, Nat.reduceMul, Nat.reduceEqDiff, Nat.reduceBEq, Nat.reduceLT, Nat.reduceLeDiff, Nat.reducePow, Int.reduceToNat, Int.reduceLT, Int.reduceLE, Int.reduceGT, Int.reduceGE, Int.reduceEq, Int.reduceNeg, Int.reduceAdd, Int.reduceSub, Int.reduceMul, ↓reduceIte, reduceCtorEq, *]
noncomputable def s_level_known_1 (L : Nat) : Ev.Spec := specP (cCons (cI .i64) (cCons (cI .i64) (cCons (cP k45) cNil))) (fun x => p_level_known_1 L x.1 x.2.1 x.2.2.1.1 x.2.2.1.2.1 x.2.2.1.2.2.1) (fun r => [.int .i64 r])
theorem s_level_known_1_run (L : Nat) (a0 : Int) (a1 : Int) (a2_0 : Int) (a2_1 : Int) (a2_2 : List (Int × Int × Bool × Unit)) : (s_level_known_1 L).run [.int .i64 a0, .int .i64 a1, .ptr (.agg 45 [.int .i64 a2_0, .int .i64 a2_1, .sl 35 (a2_2.map k35.e)])] = (p_level_known_1 L a0 a1 a2_0 a2_1 a2_2).map fun r => [.int .i64 r] := specP_run (cCons (cI .i64) (cCons (cI .i64) (cCons (cP k45) cNil))) (fun x => p_level_known_1 L x.1 x.2.1 x.2.2.1.1 x.2.2.1.2.1 x.2.2.1.2.2.1) (fun r => [.int .i64 r]) (a0, a1, (a2_0, a2_1, a2_2, ()), ())
theorem ok_level_known_1 (L : Nat) (hL : L ≤ 4611686018427387904) : SpecOk Try.prog 174 (s_level_known_1 L) := specP_ok mixed (Go_level_known_1 L hL) (To_level_known_1 L) fun x r h => ⟨L, 1, e_level_known_1 L hL x.1 x.2.1 x.2.2.1.1 x.2.2.1.2.1 x.2.2.1.2.2.1 r h⟩
def sk_level_known_1 : Ev.Spec := specK (c := (cCons (cI .i64) (cCons (cI .i64) (cCons (cP k45) cNil)))) (dCons (dI .i64) (dCons (dI .i64) (dCons (dP (dA 45 (dCons (dI .i64) (dCons (dI .i64) (dCons (dL 35 (dA 35 (dCons (dI .i64) (dCons (dI .i64) (dCons dB dNil))))) dNil))))) dNil))) (fun x => p_level_known_1 1000 x.1 x.2.1 x.2.2.1.1 x.2.2.1.2.1 x.2.2.1.2.2.1) (fun r => [.int .i64 r])
theorem okk_level_known_1 : SpecOk Try.prog 174 sk_level_known_1 := specK_ok (dCons (dI .i64) (dCons (dI .i64) (dCons (dP (dA 45 (dCons (dI .i64) (dCons (dI .i64) (dCons (dL 35 (dA 35 (dCons (dI .i64) (dCons (dI .i64) (dCons dB dNil))))) dNil))))) dNil))) mixed (Go_level_known_1 1000 (by decide)) (To_level_known_1 1000) fun x r h => ⟨1000, 1, e_level_known_1 1000 (by decide) x.1 x.2.1 x.2.2.1.1 x.2.2.1.2.1 x.2.2.1.2.2.1 r h⟩
end Go.Proofs.Ytnojehmbiceceaa.P
end
section
set_option linter.unusedVariables false
set_option linter.unusedSimpArgs false
set_option maxRecDepth 100000
namespace Go.Proofs.Ytnojehmbiceceaa.E
open Go.Ev
noncomputable def en221 : Entry := ⟨Try.f221, [(1000000, mb 17 0 [4])]⟩
theorem mk221_1000000 (vs : List V) : mask (maskOf en221.ms 1000000) vs = km 17 0 [4] vs := mask_mb _ _ _ _
end Go.Proofs.Ytnojehmbiceceaa.E
end
section
set_option linter.unusedVariables false
set_option linter.unusedSimpArgs false
set_option maxRecDepth 100000
namespace Go.Proofs.Ytnojehmbiceceaa.E
open Go.Ev
noncomputable def en257 : Entry := ⟨Try.f257, [(1000000, mb 6 0 [2])]⟩
theorem mk257_1000000 (vs : List V) : mask (maskOf en257.ms 1000000) vs = km 6 0 [2] vs := mask_mb _ _ _ _
end Go.Proofs.Ytnojehmbiceceaa.E
end
section
set_option linter.unusedVariables false
set_option linter.unusedSimpArgs false
set_option maxRecDepth 100000
namespace Go.Proofs.Ytnojehmbiceceaa.P
open Go.Ev Go.IntKind Go.Proofs.Ytnojehmbiceceaa Go.Proofs.Ytnojehmbiceceaa.Ty Go.Proofs.Ytnojehmbiceceaa.E
def p_cmp_isNaN_int (L : Nat) (a0 : Int) : Option Bool := some (!(decide (a0 = a0)))
attribute [local go_sem] Ev.putR_s Ev.putR_0 Ev.thenO_s Ev.thenO_0 Ev.seqR_n Ev.seqR_e Ev.seqR_r Ev.seqR_0 Ev.blkR_e Ev.blkR_n Ev.blkR_r Ev.blkR_0 Ev.normR_s Ev.normR_0 Ev.outR_r Ev.outR_n Ev.outR_0 Ev.retS_s Ev.retS_0 Ev.pureO_s Ev.pureO_0 Ev.topR_0 Ev.topR_t Ev.topR_t0 Ev.oneL_0 Ev.oneL_s Ev.topR_d Ev.topR_nils Ev.topR_agg Ev.topR_rs Ev.evOp_move Ev.evOp_assign Ev.evOp_pick Ev.evOp_alloc Ev.evOp_box Ev.evOp_build Ev.evOp_buildSlice Ev.evOp_load Ev.evOp_store Ev.evOp_makeMap Ev.evOp_lookup Ev.evOp_mapUpdate Ev.evOp_insert Ev.evOp_nilCheck Ev.evOp_binOp Ev.evOp_unOp Ev.evOp_convert Ev.evOp_makeFunc Ev.evOp_makeSlice Ev.evOp_slice Ev.evOp_fieldAddr Ev.evOp_field Ev.evOp_indexAddr Ev.evOp_index Ev.evOp_extract Ev.evOp_call Ev.evOp_append Ev.evOp_clear Ev.evOp_len Ev.evOp_min Ev.evOp_max Ev.condR_b Ev.condR_t Ev.evOps_nil Ev.evOps_plain Ev.evOps_guard Ev.runG_eq Ev.skipG_eq Ev.condL_tt Ev.condL_ff Ev.condL_tf Ev.condL_ft Ev.condL_u Ev.condC_t Ev.condC_f Ev.evC_skip Ev.evC_ret Ev.evC_exit Ev.evC_label Ev.evC_region Ev.evC_draw Ev.evC_seq Ev.evC_cond Ev.evC_block Ev.evC_loop Ev.fin_d Ev.fin_nils Ev.fin_agg_ Ev.fin_rs Ev.finS_s Ev.mapO_fin Ev.upd_upd Ev.argv_d Ev.argv_nils Ev.argv_agg Ev.argv_rs Ev.argv_p Ev.fk_low Ev.appendTo_nils Ev.appendTo_rs Ev.consV_d Ev.consV_agg Ev.consV_p Ev.consV_rs Ev.consV_nils Ev.consV_fn Ev.consV_und Ev.consV_jk Ev.consV_grown Ev.topR_grown Ev.len_grown Ev.consV_mp Ev.sameK_i Ev.sameK_s Ev.mget_0 Ev.mget_hit Ev.mget_miss Ev.mput_0 Ev.mput_hit Ev.mput_miss Ev.apartAll Ev.apartL Ev.apartV Ev.freeAll Ev.sel Ev.keyOfV Ev.evLookup Ev.evPut Ev.hintOk Ev.keyOk Ev.consP Ev.lookV Ev.guardV Ev.dstAt Ev.evPure Ev.evStore Ev.evBin Ev.evBinO Ev.evNil Ev.isNilC Ev.evUn Ev.evConv Ev.evSlice Ev.optI Ev.foldI Ev.capsOk Ev.noTup Ev.nth Ev.setN Ev.killAt Ev.pad Ev.V.get Ev.V.put Ev.putD Ev.newBlk Ev.upd Ev.keq Ev.empty Ev.evCall Ev.V.args Ev.argP Ev.callOf Ev.evNilP Ev.isNilP Ev.look Ev.V.view.views Ev.V.view Ev.V.toD Ev.V.toD.V.toDs Ev.V.pure.pures Ev.V.pure Ev.D.flat.flats Ev.D.flat Ev.mkAgg Ev.allD Ev.aggParts Ev.setParts Ev.setElems Ev.getPath Ev.setPath Ev.subL Ev.eqD Ev.eqD.eqDs Ev.and2 Ev.strCut Ev.evalT Ev.constT Ev.evArgs Ev.mask Ev.maskOf Ev.tableOf Ev.compT Ev.resV Ev.retV Ev.mapO Ev.frzO_n Ev.frzO_e Ev.frzO_r Ev.frzO_0 Ev.mb_z Ev.mb_0 Ev.mb_s Ev.frzL_t Ev.frzL_f Ev.frzL_0 Ev.frzT_nils Ev.frzT_rs Ev.frzT_p Ev.frzK_i Ev.keyIn_i Ev.rI_nil Ev.rI_cons Ev.rI_row Ev.rI_app Ev.r_d Ev.r_nils Ev.r_agg Ev.r_rs Ev.r_gl Ev.vw_row Ev.vw_app Ev.appO_s Ev.frzT_gl Ev.allD_gl Ev.killAt_i Ev.tkOne_i Ev.hT_agg Ev.hT_vagg Ev.hT_int Ev.hT_bool Ev.hT_str Ev.hT_sl Ev.hT_ptr Ev.hT_np Ev.hT_p Ev.hT_rs Ev.hT_mp Ev.hT_nils Ev.hT_fn Ev.hT_jk Ev.hT_gl Ev.eO_sl Ev.eO_nils Ev.eO_rs Ev.eT_sl Ev.eT_rs Ev.pL_str Ev.pL_sl Ev.pL_rs Ev.pL_nils Ev.pL_min Ev.pL_max Ev.len_glB Ev.noTup_gl Ev.rowV_len Ev.rowV_nil Ev.rowV_cons Ev.rowV_append Ev.rowV_set Ev.rowV_replicate Ev.nth_row Ev.row_take Ev.row_drop Ev.toDs_row Ev.fin_row Ev.map_row Ev.map_take_ Ev.map_drop_ Ev.Bk_i Ev.GlB_0 Ev.GlB_mk Ev.gl_nil Ev.gl_cons Ev.gl_snoc Ev.gl_setN Ev.appendTo_gl Ev.consV_gl Ev.elems_gl Ev.fin_gl Ev.view_gl Ev.argv_gl Ev.topR_gl Ev.sp_z Ev.sp_0 Ev.sp_s Ev.km_z Ev.km_0 Ev.km_s Ev.beq_toList Ev.nc0 Ev.bq_t Ev.bq_f Ev.bodyN Ev.le_maxRow Int.cast_ofNat_Int IntWalk.i64_in IntWalk.u64_in IntWalk.u8_in beq_self_eq_true Bool.true_beq Bool.false_beq Bool.and_true Bool.true_and Bool.false_and Bool.and_false Bool.and_self Bool.not_true Bool.not_false Bool.not_eq_true cond_true cond_false if_true if_false and_true true_and and_self decide_true decide_false Bool.or_true Bool.true_or Bool.or_false Bool.false_or List.isEmpty List.isEmpty_nil List.size_toArray List.map List.length_map List.length_cons List.length_nil Option.map Option.bind Option.getD Option.isSome List.replicate Bool.false_eq_true implies_true false_implies forall_const Array.toList Array.isEmpty List.append List.nil_append List.cons_append List.drop_zero List.take_length List.take_succ_cons List.take_zero List.take_nil List.getElem?_map List.getElem?_cons_zero List.getElem?_cons_succ List.getElem?_nil List.append_nil eq_self Int.toNat_natCast List.length_append Nat.zero_add Nat.add_zero List.length_replicate Nat.sub_zero Option.map_some Option.map_none Int.le_refl Nat.le_refl Int.natCast_nonneg List.map_append
noncomputable def G_cmp_isNaN_int (L : Nat) : Specs := []
noncomputable def T_cmp_isNaN_int : Table := tableOf [(257, en257)]
theorem Go_cmp_isNaN_int (L : Nat) (hL : L ≤ 4611686018427387904) : ∀ g s, Ev.look (G_cmp_isNaN_int L) g = some s → SpecOk Try.prog g s := specs_nil
theorem To_cmp_isNaN_int (L : Nat) : TableOk Try.prog ((G_cmp_isNaN_int L).map (·.1)) T_cmp_isNaN_int := (table_cons Try.func257 (by kernel_rfl) (by kernel_rfl) table_nil)
attribute [local go_sem] Ty.tk3 Ty.ik3 Ty.ek3 Ty.zv3 Ty.by3 Ty.so3 Ty.tk4 Ty.ub4 Ty.ek4 Ty.zv4 Ty.by4 Ty.so4 E.mk257_1000000 loopN loops Try.f257
theorem e_cmp_isNaN_int (L : Nat) (hL : L ≤ 4611686018427387904) (a0 : Int) (res : Bool) (h : p_cmp_isNaN_int L a0 = some res) : evTop Try.prog (G_cmp_isNaN_int L) T_cmp_isNaN_int L 1 257 [.int .i64 a0] = some [.bool res] := by
  revert h
  unfold p_cmp_isNaN_int evTop
  simp only [List.map]
  rw [evF_s (fn := Try.f257) (msk := en257.ms) (hT := by rfl) (hb := by rfl)]
  rintro ⟨⟩
  simp only [go_sem, Nat.reduceAdd, Nat.reduceSub, Nat.reduceMul, Nat.reduceEqDiff, Nat.reduceBEq, Nat.reduceLT, Nat.reduceLeDiff, Nat.reducePow, Int.reduceToNat, Int.reduceLT, Int.reduceLE, Int.reduceGT, Int.reduceGE, Int.reduceEq, Int.reduceNeg, Int.reduceAdd, Int.reduceSub, Int.reduceMul, ↓reduceIte, reduceCtorEq, *]
noncomputable def s_cmp_isNaN_int (L : Nat) : Ev.Spec := specP (cCons (cI .i64) cNil) (fun x => p_cmp_isNaN_int L x.1) (fun r => [.bool r])
theorem s_cmp_isNaN_int_run (L : Nat) (a0 : Int) : (s_cmp_isNaN_int L).run [.int .i64 a0] = (p_cmp_isNaN_int L a0).map fun r => [.bool r] := specP_run (cCons (cI .i64) cNil) (fun x => p_cmp_isNaN_int L x.1) (fun r => [.bool r]) (a0, ())
theorem ok_cmp_isNaN_int (L : Nat) (hL : L ≤ 4611686018427387904) : SpecOk Try.prog 257 (s_cmp_isNaN_int L) := specP_ok mixed (Go_cmp_isNaN_int L hL) (To_cmp_isNaN_int L) fun x r h => ⟨L, 1, e_cmp_isNaN_int L hL x.1 r h⟩
end Go.Proofs.Ytnojehmbiceceaa.P
end
section
set_option linter.unusedVariables false
set_option linter.unusedSimpArgs false
set_option maxRecDepth 100000
namespace Go.Proofs.Ytnojehmbiceceaa.P
open Go.Ev Go.IntKind Go.Proofs.Ytnojehmbiceceaa Go.Proofs.Ytnojehmbiceceaa.Ty Go.Proofs.Ytnojehmbiceceaa.E
def p_cmp_Less_int (L : Nat) (a0 : Int) (a1 : Int) : Option Bool := bnd (p_cmp_isNaN_int L a0) fun r1 => cb r1 (bnd (p_cmp_isNaN_int L a1) fun r2 => cb r2 (some (decide (a0 < a1))) (some true)) (some (decide (a0 < a1)))
attribute [local go_sem] Ev.putR_s Ev.putR_0 Ev.thenO_s Ev.thenO_0 Ev.seqR_n Ev.seqR_e Ev.seqR_r Ev.seqR_0 Ev.blkR_e Ev.blkR_n Ev.blkR_r Ev.blkR_0 Ev.normR_s Ev.normR_0 Ev.outR_r Ev.outR_n Ev.outR_0 Ev.retS_s Ev.retS_0 Ev.pureO_s Ev.pureO_0 Ev.topR_0 Ev.topR_t Ev.topR_t0 Ev.oneL_0 Ev.oneL_s Ev.topR_d Ev.topR_nils Ev.topR_agg Ev.topR_rs Ev.evOp_move Ev.evOp_assign Ev.evOp_pick Ev.evOp_alloc Ev.evOp_box Ev.evOp_build Ev.evOp_buildSlice Ev.evOp_load Ev.evOp_store Ev.evOp_makeMap Ev.evOp_lookup Ev.evOp_mapUpdate Ev.evOp_insert Ev.evOp_nilCheck Ev.evOp_binOp Ev.evOp_unOp Ev.evOp_convert Ev.evOp_makeFunc Ev.evOp_makeSlice Ev.evOp_slice Ev.evOp_fieldAddr Ev.evOp_field Ev.evOp_indexAddr Ev.evOp_index Ev.evOp_extract Ev.evOp_call Ev.evOp_append Ev.evOp_clear Ev.evOp_len Ev.evOp_min Ev.evOp_max Ev.condR_b Ev.condR_t Ev.evOps_nil Ev.evOps_plain Ev.evOps_guard Ev.runG_eq Ev.skipG_eq Ev.condL_tt Ev.condL_ff Ev.condL_tf Ev.condL_ft Ev.condL_u Ev.condC_t Ev.condC_f Ev.evC_skip Ev.evC_ret Ev.evC_exit Ev.evC_label Ev.evC_region Ev.evC_draw Ev.evC_seq Ev.evC_cond Ev.evC_block Ev.evC_loop Ev.fin_d Ev.fin_nils Ev.fin_agg_ Ev.fin_rs Ev.finS_s Ev.mapO_fin Ev.upd_upd Ev.argv_d Ev.argv_nils Ev.argv_agg Ev.argv_rs Ev.argv_p Ev.fk_low Ev.appendTo_nils Ev.appendTo_rs Ev.consV_d Ev.consV_agg Ev.consV_p Ev.consV_rs Ev.consV_nils Ev.consV_fn Ev.consV_und Ev.consV_jk Ev.consV_grown Ev.topR_grown Ev.len_grown Ev.consV_mp Ev.sameK_i Ev.sameK_s Ev.mget_0 Ev.mget_hit Ev.mget_miss Ev.mput_0 Ev.mput_hit Ev.mput_miss Ev.apartAll Ev.apartL Ev.apartV Ev.freeAll Ev.sel Ev.keyOfV Ev.evLookup Ev.evPut Ev.hintOk Ev.keyOk Ev.consP Ev.lookV Ev.guardV Ev.dstAt Ev.evPure Ev.evStore Ev.evBin Ev.evBinO Ev.evNil Ev.isNilC Ev.evUn Ev.evConv Ev.evSlice Ev.optI Ev.foldI Ev.capsOk Ev.noTup Ev.nth Ev.setN Ev.killAt Ev.pad Ev.V.get Ev.V.put Ev.putD Ev.newBlk Ev.upd Ev.keq Ev.empty Ev.evCall Ev.V.args Ev.argP Ev.callOf Ev.evNilP Ev.isNilP Ev.look Ev.V.view.views Ev.V.view Ev.V.toD Ev.V.toD.V.toDs Ev.V.pure.pures Ev.V.pure Ev.D.flat.flats Ev.D.flat Ev.mkAgg Ev.allD Ev.aggParts Ev.setParts Ev.setElems Ev.getPath Ev.setPath Ev.subL Ev.eqD Ev.eqD.eqDs Ev.and2 Ev.strCut Ev.evalT Ev.constT Ev.evArgs Ev.mask Ev.maskOf Ev.tableOf Ev.compT Ev.resV Ev.retV Ev.mapO Ev.frzO_n Ev.frzO_e Ev.frzO_r Ev.frzO_0 Ev.mb_z Ev.mb_0 Ev.mb_s Ev.frzL_t Ev.frzL_f Ev.frzL_0 Ev.frzT_nils Ev.frzT_rs Ev.frzT_p Ev.frzK_i Ev.keyIn_i Ev.rI_nil Ev.rI_cons Ev.rI_row Ev.rI_app Ev.r_d Ev.r_nils Ev.r_agg Ev.r_rs Ev.r_gl Ev.vw_row Ev.vw_app Ev.appO_s Ev.frzT_gl Ev.allD_gl Ev.killAt_i Ev.tkOne_i Ev.hT_agg Ev.hT_vagg Ev.hT_int Ev.hT_bool Ev.hT_str Ev.hT_sl Ev.hT_ptr Ev.hT_np Ev.hT_p Ev.hT_rs Ev.hT_mp Ev.hT_nils Ev.hT_fn Ev.hT_jk Ev.hT_gl Ev.eO_sl Ev.eO_nils Ev.eO_rs Ev.eT_sl Ev.eT_rs Ev.pL_str Ev.pL_sl Ev.pL_rs Ev.pL_nils Ev.pL_min Ev.pL_max Ev.len_glB Ev.noTup_gl Ev.rowV_len Ev.rowV_nil Ev.rowV_cons Ev.rowV_append Ev.rowV_set Ev.rowV_replicate Ev.nth_row Ev.row_take Ev.row_drop Ev.toDs_row Ev.fin_row Ev.map_row Ev.map_take_ Ev.map_drop_ Ev.Bk_i Ev.GlB_0 Ev.GlB_mk Ev.gl_nil Ev.gl_cons Ev.gl_snoc Ev.gl_setN Ev.appendTo_gl Ev.consV_gl Ev.elems_gl Ev.fin_gl Ev.view_gl Ev.argv_gl Ev.topR_gl Ev.sp_z Ev.sp_0 Ev.sp_s Ev.km_z Ev.km_0 Ev.km_s Ev.beq_toList Ev.nc0 Ev.bq_t Ev.bq_f Ev.bodyN Ev.le_maxRow Int.cast_ofNat_Int IntWalk.i64_in IntWalk.u64_in IntWalk.u8_in beq_self_eq_true Bool.true_beq Bool.false_beq Bool.and_true Bool.true_and Bool.false_and Bool.and_false Bool.and_self Bool.not_true Bool.not_false Bool.not_eq_true cond_true cond_false if_true if_false and_true true_and and_self decide_true decide_false Bool.or_true Bool.true_or Bool.or_false Bool.false_or List.isEmpty List.isEmpty_nil List.size_toArray List.map List.length_map List.length_cons List.length_nil Option.map Option.bind Option.getD Option.isSome List.replicate Bool.false_eq_true implies_true false_implies forall_const Array.toList Array.isEmpty List.append List.nil_append List.cons_append List.drop_zero List.take_length List.take_succ_cons List.take_zero List.take_nil List.getElem?_map List.getElem?_cons_zero List.getElem?_cons_succ List.getElem?_nil List.append_nil eq_self Int.toNat_natCast List.length_append Nat.zero_add Nat.add_zero List.length_replicate Nat.sub_zero Option.map_some Option.map_none Int.le_refl Nat.le_refl Int.natCast_nonneg List.map_append
noncomputable def G_cmp_Less_int (L : Nat) : Specs := [(257, s_cmp_isNaN_int L)]
noncomputable def T_cmp_Less_int : Table := tableOf [(221, en221)]
theorem Go_cmp_Less_int (L : Nat) (hL : L ≤ 4611686018427387904) : ∀ g s, Ev.look (G_cmp_Less_int L) g = some s → SpecOk Try.prog g s := (specs_cons (ok_cmp_isNaN_int L hL) specs_nil)
theorem To_cmp_Less_int (L : Nat) : TableOk Try.prog ((G_cmp_Less_int L).map (·.1)) T_cmp_Less_int := (table_cons Try.func221 (by kernel_rfl) (by kernel_rfl) table_nil)
theorem lk_cmp_Less_int_257 (L : Nat) : Ev.look (G_cmp_Less_int L) 257 = some (s_cmp_isNaN_int L) := nr rfl
attribute [local go_sem] Ty.tk3 Ty.ik3 Ty.ek3 Ty.zv3 Ty.by3 Ty.so3 Ty.tk4 Ty.ub4 Ty.ek4 Ty.zv4 Ty.by4 Ty.so4 E.mk221_1000000 lk_cmp_Less_int_257 s_cmp_isNaN_int_run loopN loops Try.f221
theorem e_cmp_Less_int (L : Nat) (hL : L ≤ 4611686018427387904) (a0 : Int) (a1 : Int) (res : Bool) (h : p_cmp_Less_int L a0 a1 = some res) : evTop Try.prog (G_cmp_Less_int L) T_cmp_Less_int L 1 221 [.int .i64 a0, .int .i64 a1] = some [.bool res] := by
  revert h
  unfold p_cmp_Less_int evTop
  simp only [List.map]
  rw [evF_s (fn := Try.f221) (msk := en221.ms) (hT := by rfl) (hb := by rfl)]
  refine bnd_i fun r1 c1 => ?_
  refine cb_i (fun c2 => ?_) (fun c2 => ?_)
  · refine bnd_i fun r2 c3 => ?_
    refine cb_i (fun c4 => ?_) (fun c4 => ?_)
    · rintro ⟨⟩
      simp only [go_sem, Nat.reduceAdd, Nat.reduceSub, Nat.reduceMul, Nat.reduceEqDiff, Nat.reduceBEq, Nat.reduceLT, Nat.reduceLeDiff, Nat.reducePow, Int.reduceToNat, Int.reduceLT, Int.reduceLE, Int.reduceGT, Int.reduceGE, Int.reduceEq, Int.reduceNeg, Int.reduceAdd, Int.reduceSub, Int.reduceMul, ↓reduceIte, reduceCtorEq, *]
    · rintro ⟨⟩
      simp only [go_sem, Nat.reduceAdd, Nat.reduceSub, Nat.reduceMul, Nat.reduceEqDiff, Nat.reduceBEq, Nat.reduceLT, Nat.reduceLeDiff, Nat.reducePow, Int.reduceToNat, Int.reduceLT, Int.reduceLE, Int.reduceGT, Int.reduceGE, Int.reduceEq, Int.reduceNeg, Int.reduceAdd, Int.reduceSub, Int.reduceMul, ↓reduceIte, reduceCtorEq, *]
  · rintro ⟨⟩
    simp only [go_sem, Nat.reduceAdd, Nat.reduceSub, Nat.reduceMul, Nat.reduceEqDiff, Nat.reduceBEq, Nat.reduceLT, Nat.reduceLeDiff, Nat.reducePow, Int.reduceToNat, Int.reduceLT, Int.reduceLE, Int.reduceGT, Int.reduceGE, Int.reduceEq, Int.reduceNeg, Int.reduceAdd, Int.reduceSub, Int.reduceMul, ↓reduceIte, reduceCtorEq, *]
noncomputable def s_cmp_Less_int (L : Nat) : Ev.Spec := specP (cCons (cI .i64) (cCons (cI .i64) cNil)) (fun x => p_cmp_Less_int L x.1 x.2.1) (fun r => [.bool r])
theorem s_cmp_Less_int_run (L : Nat) (a0 : Int) (a1 : Int) : (s_cmp_Less_int L).run [.int .i64 a0, .int .i64 a1] = (p_cmp_Less_int L a0 a1).map fun r => [.bool r] := specP_run (cCons (cI .i64) (cCons (cI .i64) cNil)) (fun x => p_cmp_Less_int L x.1 x.2.1) (fun r => [.bool r]) (a0, a1, ())
theorem ok_cmp_Less_int (L : Nat) (hL : L ≤ 4611686018427387904) : SpecOk Try.prog 221 (s_cmp_Less_int L) := specP_ok mixed (Go_cmp_Less_int L hL) (To_cmp_Less_int L) fun x r h => ⟨L, 1, e_cmp_Less_int L hL x.1 x.2.1 r h⟩
def sk_cmp_Less_int : Ev.Spec := specK (c := (cCons (cI .i64) (cCons (cI .i64) cNil))) (dCons (dI .i64) (dCons (dI .i64) dNil)) (fun x => p_cmp_Less_int 1000 x.1 x.2.1) (fun r => [.bool r])
theorem okk_cmp_Less_int : SpecOk Try.prog 221 sk_cmp_Less_int := specK_ok (dCons (dI .i64) (dCons (dI .i64) dNil)) mixed (Go_cmp_Less_int 1000 (by decide)) (To_cmp_Less_int 1000) fun x r h => ⟨1000, 1, e_cmp_Less_int 1000 (by decide) x.1 x.2.1 r h⟩
end Go.Proofs.Ytnojehmbiceceaa.P
end
section
set_option linter.unusedVariables false
set_option linter.unusedSimpArgs false
set_option maxRecDepth 100000
namespace Go.Proofs.Ytnojehmbiceceaa.E
open Go.Ev
noncomputable def en91 : Entry := ⟨Try.f91, [(1000000, mb 24 0 [5])]⟩
theorem dw91_1 (lv : Nat) (env : List V) (st : Store) (o : Option (List V × Store)) : drawR en91.ms 1 lv env st o = if lv < 1000000000000000000000000000000 then (o) else none := nr rfl
theorem kl91_1 (lv : Nat) (st : Store) : killR en91.ms 1 lv st = st := nr rfl
theorem nc91_1 : ncOf en91.ms 1 = false := nr rfl
theorem mk91_1000000 (vs : List V) : mask (maskOf en91.ms 1000000) vs = km 24 0 [5] vs := mask_mb _ _ _ _
end Go.Proofs.Ytnojehmbiceceaa.E
end
section
set_option linter.unusedVariables false
set_option linter.unusedSimpArgs false
set_option maxRecDepth 100000
namespace Go.Proofs.Ytnojehmbiceceaa.E
open Go.Ev
noncomputable def en92 : Entry := ⟨Try.f92, [(0, mb 18 0 [3, 6, 7, 8]), (1000001, mb 18 0 [3]), (1000002, mb 18 0 [3, 6, 7, 8]), (1000000, mb 18 0 [2])]⟩
theorem mk92_0 (vs : List V) : mask (maskOf en92.ms 0) vs = km 18 0 [3, 6, 7, 8] vs := mask_mb _ _ _ _
theorem mk92_1000001 (vs : List V) : mask (maskOf en92.ms 1000001) vs = km 18 0 [3] vs := mask_mb _ _ _ _
theorem mk92_1000002 (vs : List V) : mask (maskOf en92.ms 1000002) vs = km 18 0 [3, 6, 7, 8] vs := mask_mb _ _ _ _
theorem mk92_1000000 (vs : List V) : mask (maskOf en92.ms 1000000) vs = km 18 0 [2] vs := mask_mb _ _ _ _
theorem fz92_0 (lv : Nat) (f : Run) : frzF en92.ms lv 0 f = f := nr rfl
noncomputable def lb92_0 : Code := loopN Try.f92 0
end Go.Proofs.Ytnojehmbiceceaa.E
end
section
set_option linter.unusedVariables false
set_option linter.unusedSimpArgs false
set_option maxRecDepth 100000
namespace Go.Proofs.Ytnojehmbiceceaa.P
open Go.Ev Go.IntKind Go.Proofs.Ytnojehmbiceceaa Go.Proofs.Ytnojehmbiceceaa.Ty Go.Proofs.Ytnojehmbiceceaa.E
def p_cmp_Or_int_l0 (L : Nat)  : List Int → Option (Sum Unit Int)
  | [] => some (.inl ())
  | x1 :: tl => cb (decide (x1 = 0)) (p_cmp_Or_int_l0 L  tl) (some (.inr x1))
def p_cmp_Or_int (L : Nat) (a0 : List Int) : Option Int := rq (a0.length < L) <| bnd (p_cmp_Or_int_l0 L a0) fun o3 => match o3 with | (.inl o3_0) => (some 0) | (.inr o3_1) => (some o3_1)
attribute [local go_sem] Ev.putR_s Ev.putR_0 Ev.thenO_s Ev.thenO_0 Ev.seqR_n Ev.seqR_e Ev.seqR_r Ev.seqR_0 Ev.blkR_e Ev.blkR_n Ev.blkR_r Ev.blkR_0 Ev.normR_s Ev.normR_0 Ev.outR_r Ev.outR_n Ev.outR_0 Ev.retS_s Ev.retS_0 Ev.pureO_s Ev.pureO_0 Ev.topR_0 Ev.topR_t Ev.topR_t0 Ev.oneL_0 Ev.oneL_s Ev.topR_d Ev.topR_nils Ev.topR_agg Ev.topR_rs Ev.evOp_move Ev.evOp_assign Ev.evOp_pick Ev.evOp_alloc Ev.evOp_box Ev.evOp_build Ev.evOp_buildSlice Ev.evOp_load Ev.evOp_store Ev.evOp_makeMap Ev.evOp_lookup Ev.evOp_mapUpdate Ev.evOp_insert Ev.evOp_nilCheck Ev.evOp_binOp Ev.evOp_unOp Ev.evOp_convert Ev.evOp_makeFunc Ev.evOp_makeSlice Ev.evOp_slice Ev.evOp_fieldAddr Ev.evOp_field Ev.evOp_indexAddr Ev.evOp_index Ev.evOp_extract Ev.evOp_call Ev.evOp_append Ev.evOp_clear Ev.evOp_len Ev.evOp_min Ev.evOp_max Ev.condR_b Ev.condR_t Ev.evOps_nil Ev.evOps_plain Ev.evOps_guard Ev.runG_eq Ev.skipG_eq Ev.condL_tt Ev.condL_ff Ev.condL_tf Ev.condL_ft Ev.condL_u Ev.condC_t Ev.condC_f Ev.evC_skip Ev.evC_ret Ev.evC_exit Ev.evC_label Ev.evC_region Ev.evC_draw Ev.evC_seq Ev.evC_cond Ev.evC_block Ev.evC_loop Ev.fin_d Ev.fin_nils Ev.fin_agg_ Ev.fin_rs Ev.finS_s Ev.mapO_fin Ev.upd_upd Ev.argv_d Ev.argv_nils Ev.argv_agg Ev.argv_rs Ev.argv_p Ev.fk_low Ev.appendTo_nils Ev.appendTo_rs Ev.consV_d Ev.consV_agg Ev.consV_p Ev.consV_rs Ev.consV_nils Ev.consV_fn Ev.consV_und Ev.consV_jk Ev.consV_grown Ev.topR_grown Ev.len_grown Ev.consV_mp Ev.sameK_i Ev.sameK_s Ev.mget_0 Ev.mget_hit Ev.mget_miss Ev.mput_0 Ev.mput_hit Ev.mput_miss Ev.apartAll Ev.apartL Ev.apartV Ev.freeAll Ev.sel Ev.keyOfV Ev.evLookup Ev.evPut Ev.hintOk Ev.keyOk Ev.consP Ev.lookV Ev.guardV Ev.dstAt Ev.evPure Ev.evStore Ev.evBin Ev.evBinO Ev.evNil Ev.isNilC Ev.evUn Ev.evConv Ev.evSlice Ev.optI Ev.foldI Ev.capsOk Ev.noTup Ev.nth Ev.setN Ev.killAt Ev.pad Ev.V.get Ev.V.put Ev.putD Ev.newBlk Ev.upd Ev.keq Ev.empty Ev.evCall Ev.V.args Ev.argP Ev.callOf Ev.evNilP Ev.isNilP Ev.look Ev.V.view.views Ev.V.view Ev.V.toD Ev.V.toD.V.toDs Ev.V.pure.pures Ev.V.pure Ev.D.flat.flats Ev.D.flat Ev.mkAgg Ev.allD Ev.aggParts Ev.setParts Ev.setElems Ev.getPath Ev.setPath Ev.subL Ev.eqD Ev.eqD.eqDs Ev.and2 Ev.strCut Ev.evalT Ev.constT Ev.evArgs Ev.mask Ev.maskOf Ev.tableOf Ev.compT Ev.resV Ev.retV Ev.mapO Ev.frzO_n Ev.frzO_e Ev.frzO_r Ev.frzO_0 Ev.mb_z Ev.mb_0 Ev.mb_s Ev.frzL_t Ev.frzL_f Ev.frzL_0 Ev.frzT_nils Ev.frzT_rs Ev.frzT_p Ev.frzK_i Ev.keyIn_i Ev.rI_nil Ev.rI_cons Ev.rI_row Ev.rI_app Ev.r_d Ev.r_nils Ev.r_agg Ev.r_rs Ev.r_gl Ev.vw_row Ev.vw_app Ev.appO_s Ev.frzT_gl Ev.allD_gl Ev.killAt_i Ev.tkOne_i Ev.hT_agg Ev.hT_vagg Ev.hT_int Ev.hT_bool Ev.hT_str Ev.hT_sl Ev.hT_ptr Ev.hT_np Ev.hT_p Ev.hT_rs Ev.hT_mp Ev.hT_nils Ev.hT_fn Ev.hT_jk Ev.hT_gl Ev.eO_sl Ev.eO_nils Ev.eO_rs Ev.eT_sl Ev.eT_rs Ev.pL_str Ev.pL_sl Ev.pL_rs Ev.pL_nils Ev.pL_min Ev.pL_max Ev.len_glB Ev.noTup_gl Ev.rowV_len Ev.rowV_nil Ev.rowV_cons Ev.rowV_append Ev.rowV_set Ev.rowV_replicate Ev.nth_row Ev.row_take Ev.row_drop Ev.toDs_row Ev.fin_row Ev.map_row Ev.map_take_ Ev.map_drop_ Ev.Bk_i Ev.GlB_0 Ev.GlB_mk Ev.gl_nil Ev.gl_cons Ev.gl_snoc Ev.gl_setN Ev.appendTo_gl Ev.consV_gl Ev.elems_gl Ev.fin_gl Ev.view_gl Ev.argv_gl Ev.topR_gl Ev.sp_z Ev.sp_0 Ev.sp_s Ev.km_z Ev.km_0 Ev.km_s Ev.beq_toList Ev.nc0 Ev.bq_t Ev.bq_f Ev.bodyN Ev.le_maxRow Int.cast_ofNat_Int IntWalk.i64_in IntWalk.u64_in IntWalk.u8_in beq_self_eq_true Bool.true_beq Bool.false_beq Bool.and_true Bool.true_and Bool.false_and Bool.and_false Bool.and_self Bool.not_true Bool.not_false Bool.not_eq_true cond_true cond_false if_true if_false and_true true_and and_self decide_true decide_false Bool.or_true Bool.true_or Bool.or_false Bool.false_or List.isEmpty List.isEmpty_nil List.size_toArray List.map List.length_map List.length_cons List.length_nil Option.map Option.bind Option.getD Option.isSome List.replicate Bool.false_eq_true implies_true false_implies forall_const Array.toList Array.isEmpty List.append List.nil_append List.cons_append List.drop_zero List.take_length List.take_succ_cons List.take_zero List.take_nil List.getElem?_map List.getElem?_cons_zero List.getElem?_cons_succ List.getElem?_nil List.append_nil eq_self Int.toNat_natCast List.length_append Nat.zero_add Nat.add_zero List.length_replicate Nat.sub_zero Option.map_some Option.map_none Int.le_refl Nat.le_refl Int.natCast_nonneg List.map_append
noncomputable def G_cmp_Or_int (L : Nat) : Specs := []
noncomputable def T_cmp_Or_int : Table := tableOf [(92, en92)]
theorem Go_cmp_Or_int (L : Nat) (hL : L ≤ 4611686018427387904) : ∀ g s, Ev.look (G_cmp_Or_int L) g = some s → SpecOk Try.prog g s := specs_nil
theorem To_cmp_Or_int (L : Nat) : TableOk Try.prog ((G_cmp_Or_int L).map (·.1)) T_cmp_Or_int := (table_cons Try.func92 (by kernel_rfl) (by kernel_rfl) table_nil)
attribute [local go_sem] Ty.tk3 Ty.ik3 Ty.ek3 Ty.zv3 Ty.by3 Ty.so3 Ty.tk4 Ty.ub4 Ty.ek4 Ty.zv4 Ty.by4 Ty.so4 Ty.tk22 Ty.zv22 Ty.by22 Ty.so22 Ty.k22_e E.mk92_0 E.mk92_1000001 E.mk92_1000002 E.mk92_1000000 E.fz92_0 E.lb92_0 loopN loops Try.f92
def Q0_p_cmp_Or_int_l0 (a0 : List Int) (u : Unit) (z : Out) : Prop := ∃ env st, z = some (.exit 0, env, st) ∧ env = sp 18 0 [(3, .d (.int .i64 0))]
def Q1_p_cmp_Or_int_l0 (a0 : List Int) (u : Int) (z : Out) : Prop := ∃ env st, z = some (.ret, env, st) ∧ env = sp 18 0 [(2, .d (.int .i64 u))]
def Q_p_cmp_Or_int_l0 (a0 : List Int) (o : Sum Unit Int) (z : Out) : Prop := match o with | (.inl u) => Q0_p_cmp_Or_int_l0 a0 u z | (.inr u) => Q1_p_cmp_Or_int_l0 a0 u z
theorem l_p_cmp_Or_int_l0 (L : Nat) (hL : L ≤ 4611686018427387904) (a0 : List Int) : ∀ (tl : List Int) (n : Nat) (s2 : Int) (env : List V) (st : Store) (o : Sum Unit Int), tl.length < n → Rng a0 s2 tl → mask (maskOf en92.ms 0) env = sp 18 0 [(3, .d (.int .i64 0)), (6, .d (.sl 3 (a0.map (D.int .i64)))), (7, .d (.int .i64 (a0.length : Int))), (8, .d (.int .i64 s2))] → p_cmp_Or_int_l0 L  tl  = some o →
    Q_p_cmp_Or_int_l0 a0 o (iter (evC Try.prog (G_cmp_Or_int L) (evF Try.prog (G_cmp_Or_int L) T_cmp_Or_int L 0) L en92.ms 0 0 lb92_0) (maskOf en92.ms 0) n env st) := by
  intro tl
  induction tl with
  | nil =>
    intro n s2  env st o hn hR he  h
    obtain ⟨n, rfl⟩ : ∃ m, n = m + 1 := ⟨n - 1, by omega⟩
    have g0 := rng_nil hR
    rw [iter, he]
    clear he
    generalize hK : iter _ _ n = K
    rw [p_cmp_Or_int_l0] at h
    revert h
    rintro ⟨⟩
    simp only [go_sem, Nat.reduceAdd, Nat.reduceSub, Nat.reduceMul, Nat.reduceEqDiff, Nat.reduceBEq, Nat.reduceLT, Nat.reduceLeDiff, Nat.reducePow, Int.reduceToNat, Int.reduceLT, Int.reduceLE, Int.reduceGT, Int.reduceGE, Int.reduceEq, Int.reduceNeg, Int.reduceAdd, Int.reduceSub, Int.reduceMul, ↓reduceIte, reduceCtorEq, *]
    refine (⟨_, _, rfl, ?_⟩ : Q0_p_cmp_Or_int_l0 a0 _ _)
    all_goals simp only [go_sem, Nat.reduceAdd, Nat.reduceSub, Nat.reduceMul, Nat.reduceEqDiff, Nat.reduceBEq, Nat.reduceLT, Nat.reduceLeDiff, Nat.reducePow, Int.reduceToNat, Int.reduceLT, Int.reduceLE, Int.reduceGT, Int.reduceGE, Int.reduceEq, Int.reduceNeg, Int.reduceAdd, Int.reduceSub, Int.reduceMul, ↓reduceIte, reduceCtorEq, *]
  | cons x1 tl ih =>
    intro n s2  env st o hn hR he  h
    obtain ⟨n, rfl⟩ : ∃ m, n = m + 1 := ⟨n - 1, by omega⟩
    replace ih : Hold _ := ih
    replace hR := rng_s hR
    obtain ⟨g0, g1, g2, g3, hR⟩ := hR
    rw [iter, he]
    clear he
    generalize hK : iter _ _ n = K
    rw [p_cmp_Or_int_l0] at h
    revert h
    refine cb_i (fun c1 => ?_) (fun c1 => ?_)
    · intro h
      simp only [go_sem, Nat.reduceAdd, Nat.reduceSub, Nat.reduceMul, Nat.reduceEqDiff, Nat.reduceBEq, Nat.reduceLT, Nat.reduceLeDiff, Nat.reducePow, Int.reduceToNat, Int.reduceLT, Int.reduceLE, Int.reduceGT, Int.reduceGE, Int.reduceEq, Int.reduceNeg, Int.reduceAdd, Int.reduceSub, Int.reduceMul, ↓reduceIte, reduceCtorEq, *]
      subst hK
      refine ih n (s2 + 1)  _ _ _ (by simp only [List.length_cons] at hn; omega) hR ?_ h
      all_goals simp only [go_sem, Nat.reduceAdd, Nat.reduceSub, Nat.reduceMul, Nat.reduceEqDiff, Nat.reduceBEq, Nat.reduceLT, Nat.reduceLeDiff, Nat.reducePow, Int.reduceToNat, Int.reduceLT, Int.reduceLE, Int.reduceGT, Int.reduceGE, Int.reduceEq, Int.reduceNeg, Int.reduceAdd, Int.reduceSub, Int.reduceMul, ↓reduceIte, reduceCtorEq, *]
    · rintro ⟨⟩
      simp only [go_sem, Nat.reduceAdd, Nat.reduceSub, Nat.reduceMul, Nat.reduceEqDiff, Nat.reduceBEq, Nat.reduceLT, Nat.reduceLeDiff, Nat.reducePow, Int.reduceToNat, Int.reduceLT, Int.reduceLE, Int.reduceGT, Int.reduceGE, Int.reduceEq, Int.reduceNeg, Int.reduceAdd, Int.reduceSub, Int.reduceMul, ↓reduceIte, reduceCtorEq, *]
      refine (⟨_, _, rfl, ?_⟩ : Q1_p_cmp_Or_int_l0 a0 _ _)
      all_goals simp only [go_sem, Nat.reduceAdd, Nat.reduceSub, Nat.reduceMul, Nat.reduceEqDiff, Nat.reduceBEq, Nat.reduceLT, Nat.reduceLeDiff, Nat.reducePow, Int.reduceToNat, Int.reduceLT, Int.reduceLE, Int.reduceGT, Int.reduceGE, Int.reduceEq, Int.reduceNeg, Int.reduceAdd, Int.reduceSub, Int.reduceMul, ↓reduceIte, reduceCtorEq, *]
theorem e_cmp_Or_int (L : Nat) (hL : L ≤ 4611686018427387904) (a0 : List Int) (res : Int) (h : p_cmp_Or_int L a0 = some res) : evTop Try.prog (G_cmp_Or_int L) T_cmp_Or_int L 1 92 [.sl 3 (a0.map (D.int .i64))] = some [.int .i64 res] := by
  revert h
  unfold p_cmp_Or_int evTop
  simp only [List.map]
  rw [evF_s (fn := Try.f92) (msk := en92.ms) (hT := by rfl) (hb := by rfl)]
  refine rq_i fun c1 => ?_
  refine bnd_i fun o3 ho2 => ?_
  intro h
  simp only [go_sem, Nat.reduceAdd, Nat.reduceSub, Nat.reduceMul, Nat.reduceEqDiff, Nat.reduceBEq, Nat.reduceLT, Nat.reduceLeDiff, Nat.reducePow, Int.reduceToNat, Int.reduceLT, Int.reduceLE, Int.reduceGT, Int.reduceGE, Int.reduceEq, Int.reduceNeg, Int.reduceAdd, Int.reduceSub, Int.reduceMul, ↓reduceIte, reduceCtorEq, *]
  generalize hz4 : iter _ _ _ _ _ = z3
  have hq5 : Q_p_cmp_Or_int_l0 a0 o3 z3 := by
    rw [← hz4]
    refine l_p_cmp_Or_int_l0 L hL a0 a0 L 0  _ _ _ c1 (rng_0 c1 hL) ?_ ho2
    all_goals simp only [go_sem, Nat.reduceAdd, Nat.reduceSub, Nat.reduceMul, Nat.reduceEqDiff, Nat.reduceBEq, Nat.reduceLT, Nat.reduceLeDiff, Nat.reducePow, Int.reduceToNat, Int.reduceLT, Int.reduceLE, Int.reduceGT, Int.reduceGE, Int.reduceEq, Int.reduceNeg, Int.reduceAdd, Int.reduceSub, Int.reduceMul, ↓reduceIte, reduceCtorEq, *]
  clear hz4 ho2
  rcases o3 with o3_0 | o3_1
  · obtain ⟨_, st4, rfl, rfl⟩ := hq5
    dsimp only at h
    revert h
    rintro ⟨⟩
    simp only [go_sem, Nat.reduceAdd, Nat.reduceSub, Nat.reduceMul, Nat.reduceEqDiff, Nat.reduceBEq, Nat.reduceLT, Nat.reduceLeDiff, Nat.reducePow, Int.reduceToNat, Int.reduceLT, Int.reduceLE, Int.reduceGT, Int.reduceGE, Int.reduceEq, Int.reduceNeg, Int.reduceAdd, Int.reduceSub, Int.reduceMul, ↓reduceIte, reduceCtorEq, *]
  · obtain ⟨_, st5, rfl, rfl⟩ := hq5
    dsimp only at h
    revert h
    rintro ⟨⟩
    simp only [go_sem, Nat.reduceAdd, Nat.reduceSub, Nat.reduceMul, Nat.reduceEqDiff, Nat.reduceBEq, Nat.reduceLT, Nat.reduceLeDiff, Nat.reducePow, Int.reduceToNat, Int.reduceLT, Int.reduceLE, Int.reduceGT, Int.reduceGE, Int.reduceEq, Int.reduceNeg, Int.reduceAdd, Int.reduceSub, Int.reduceMul, ↓reduceIte, reduceCtorEq, *]
noncomputable def s_cmp_Or_int (L : Nat) : Ev.Spec := specP (cCons k22 cNil) (fun x => p_cmp_Or_int L x.1) (fun r => [.int .i64 r])
theorem s_cmp_Or_int_run (L : Nat) (a0 : List Int) : (s_cmp_Or_int L).run [.sl 3 (a0.map (D.int .i64))] = (p_cmp_Or_int L a0).map fun r => [.int .i64 r] := specP_run (cCons k22 cNil) (fun x => p_cmp_Or_int L x.1) (fun r => [.int .i64 r]) (a0, ())
theorem ok_cmp_Or_int (L : Nat) (hL : L ≤ 4611686018427387904) : SpecOk Try.prog 92 (s_cmp_Or_int L) := specP_ok mixed (Go_cmp_Or_int L hL) (To_cmp_Or_int L) fun x r h => ⟨L, 1, e_cmp_Or_int L hL x.1 r h⟩
end Go.Proofs.Ytnojehmbiceceaa.P
end
section
set_option linter.unusedVariables false
set_option linter.unusedSimpArgs false
set_option maxRecDepth 100000
namespace Go.Proofs.Ytnojehmbiceceaa.P
open Go.Ev Go.IntKind Go.Proofs.Ytnojehmbiceceaa Go.Proofs.Ytnojehmbiceceaa.Ty Go.Proofs.Ytnojehmbiceceaa.E
def p_level_Witness_1 (L : Nat) (a0 : Int) (a1 : Int) (a2_0 : Int) (a2_1 : Int) (a2_2 : List (Int × Int × Bool × Unit)) : Option Int := bnd (idx a2_2 a0) fun x1 => bnd (idx a2_2 a1) fun x2 => bnd (p_cmp_Compare_Quanta L x1.2.1 x2.2.1) fun r3 => bnd (p_cmp_Or_int L ([r3, (i64.wrap (a0 - a1))])) fun r4 => some r4
attribute [local go_sem] Ev.putR_s Ev.putR_0 Ev.thenO_s Ev.thenO_0 Ev.seqR_n Ev.seqR_e Ev.seqR_r Ev.seqR_0 Ev.blkR_e Ev.blkR_n Ev.blkR_r Ev.blkR_0 Ev.normR_s Ev.normR_0 Ev.outR_r Ev.outR_n Ev.outR_0 Ev.retS_s Ev.retS_0 Ev.pureO_s Ev.pureO_0 Ev.topR_0 Ev.topR_t Ev.topR_t0 Ev.oneL_0 Ev.oneL_s Ev.topR_d Ev.topR_nils Ev.topR_agg Ev.topR_rs Ev.evOp_move Ev.evOp_assign Ev.evOp_pick Ev.evOp_alloc Ev.evOp_box Ev.evOp_build Ev.evOp_buildSlice Ev.evOp_load Ev.evOp_store Ev.evOp_makeMap Ev.evOp_lookup Ev.evOp_mapUpdate Ev.evOp_insert Ev.evOp_nilCheck Ev.evOp_binOp Ev.evOp_unOp Ev.evOp_convert Ev.evOp_makeFunc Ev.evOp_makeSlice Ev.evOp_slice Ev.evOp_fieldAddr Ev.evOp_field Ev.evOp_indexAddr Ev.evOp_index Ev.evOp_extract Ev.evOp_call Ev.evOp_append Ev.evOp_clear Ev.evOp_len Ev.evOp_min Ev.evOp_max Ev.condR_b Ev.condR_t Ev.evOps_nil Ev.evOps_plain Ev.evOps_guard Ev.runG_eq Ev.skipG_eq Ev.condL_tt Ev.condL_ff Ev.condL_tf Ev.condL_ft Ev.condL_u Ev.condC_t Ev.condC_f Ev.evC_skip Ev.evC_ret Ev.evC_exit Ev.evC_label Ev.evC_region Ev.evC_draw Ev.evC_seq Ev.evC_cond Ev.evC_block Ev.evC_loop Ev.fin_d Ev.fin_nils Ev.fin_agg_ Ev.fin_rs Ev.finS_s Ev.mapO_fin Ev.upd_upd Ev.argv_d Ev.argv_nils Ev.argv_agg Ev.argv_rs Ev.argv_p Ev.fk_low Ev.appendTo_nils Ev.appendTo_rs Ev.consV_d Ev.consV_agg Ev.consV_p Ev.consV_rs Ev.consV_nils Ev.consV_fn Ev.consV_und Ev.consV_jk Ev.consV_grown Ev.topR_grown Ev.len_grown Ev.consV_mp Ev.sameK_i Ev.sameK_s Ev.mget_0 Ev.mget_hit Ev.mget_miss Ev.mput_0 Ev.mput_hit Ev.mput_miss Ev.apartAll Ev.apartL Ev.apartV Ev.freeAll Ev.sel Ev.keyOfV Ev.evLookup Ev.evPut Ev.hintOk Ev.keyOk Ev.consP Ev.lookV Ev.guardV Ev.dstAt Ev.evPure Ev.evStore Ev.evBin Ev.evBinO Ev.evNil Ev.isNilC Ev.evUn Ev.evConv Ev.evSlice Ev.optI Ev.foldI Ev.capsOk Ev.noTup Ev.nth Ev.setN Ev.killAt Ev.pad Ev.V.get Ev.V.put Ev.putD Ev.newBlk Ev.upd Ev.keq Ev.empty Ev.evCall Ev.V.args Ev.argP Ev.callOf Ev.evNilP Ev.isNilP Ev.look Ev.V.view.views Ev.V.view Ev.V.toD Ev.V.toD.V.toDs Ev.V.pure.pures Ev.V.pure Ev.D.flat.flats Ev.D.flat Ev.mkAgg Ev.allD Ev.aggParts Ev.setParts Ev.setElems Ev.getPath Ev.setPath Ev.subL Ev.eqD Ev.eqD.eqDs Ev.and2 Ev.strCut Ev.evalT Ev.constT Ev.evArgs Ev.mask Ev.maskOf Ev.tableOf Ev.compT Ev.resV Ev.retV Ev.mapO Ev.frzO_n Ev.frzO_e Ev.frzO_r Ev.frzO_0 Ev.mb_z Ev.mb_0 Ev.mb_s Ev.frzL_t Ev.frzL_f Ev.frzL_0 Ev.frzT_nils Ev.frzT_rs Ev.frzT_p Ev.frzK_i Ev.keyIn_i Ev.rI_nil Ev.rI_cons Ev.rI_row Ev.rI_app Ev.r_d Ev.r_nils Ev.r_agg Ev.r_rs Ev.r_gl Ev.vw_row Ev.vw_app Ev.appO_s Ev.frzT_gl Ev.allD_gl Ev.killAt_i Ev.tkOne_i Ev.hT_agg Ev.hT_vagg Ev.hT_int Ev.hT_bool Ev.hT_str Ev.hT_sl Ev.hT_ptr Ev.hT_np Ev.hT_p Ev.hT_rs Ev.hT_mp Ev.hT_nils Ev.hT_fn Ev.hT_jk Ev.hT_gl Ev.eO_sl Ev.eO_nils Ev.eO_rs Ev.eT_sl Ev.eT_rs Ev.pL_str Ev.pL_sl Ev.pL_rs Ev.pL_nils Ev.pL_min Ev.pL_max Ev.len_glB Ev.noTup_gl Ev.rowV_len Ev.rowV_nil Ev.rowV_cons Ev.rowV_append Ev.rowV_set Ev.rowV_replicate Ev.nth_row Ev.row_take Ev.row_drop Ev.toDs_row Ev.fin_row Ev.map_row Ev.map_take_ Ev.map_drop_ Ev.Bk_i Ev.GlB_0 Ev.GlB_mk Ev.gl_nil Ev.gl_cons Ev.gl_snoc Ev.gl_setN Ev.appendTo_gl Ev.consV_gl Ev.elems_gl Ev.fin_gl Ev.view_gl Ev.argv_gl Ev.topR_gl Ev.sp_z Ev.sp_0 Ev.sp_s Ev.km_z Ev.km_0 Ev.km_s Ev.beq_toList Ev.nc0 Ev.bq_t Ev.bq_f Ev.bodyN Ev.le_maxRow Int.cast_ofNat_Int IntWalk.i64_in IntWalk.u64_in IntWalk.u8_in beq_self_eq_true Bool.true_beq Bool.false_beq Bool.and_true Bool.true_and Bool.false_and Bool.and_false Bool.and_self Bool.not_true Bool.not_false Bool.not_eq_true cond_true cond_false if_true if_false and_true true_and and_self decide_true decide_false Bool.or_true Bool.true_or Bool.or_false Bool.false_or List.isEmpty List.isEmpty_nil List.size_toArray List.map List.length_map List.length_cons List.length_nil Option.map Option.bind Option.getD Option.isSome List.replicate Bool.false_eq_true implies_true false_implies forall_const Array.toList Array.isEmpty List.append List.nil_append List.cons_append List.drop_zero List.take_length List.take_succ_cons List.take_zero List.take_nil List.getElem?_map List.getElem?_cons_zero List.getElem?_cons_succ List.getElem?_nil List.append_nil eq_self Int.toNat_natCast List.length_append Nat.zero_add Nat.add_zero List.length_replicate Nat.sub_zero Option.map_some Option.map_none Int.le_refl Nat.le_refl Int.natCast_nonneg List.map_append
noncomputable def G_level_Witness_1 (L : Nat) : Specs := [(92, s_cmp_Or_int L), (93, s_cmp_Compare_Quanta L)]
noncomputable def T_level_Witness_1 : Table := tableOf [(91, en91)]
theorem Go_level_Witness_1 (L : Nat) (hL : L ≤ 4611686018427387904) : ∀ g s, Ev.look (G_level_Witness_1 L) g = some s → SpecOk Try.prog g s := (specs_cons (ok_cmp_Or_int L hL) (specs_cons (ok_cmp_Compare_Quanta L hL) specs_nil))
theorem To_level_Witness_1 (L : Nat) : TableOk Try.prog ((G_level_Witness_1 L).map (·.1)) T_level_Witness_1 := (table_cons Try.func91 (by kernel_rfl) (by kernel_rfl) table_nil)
theorem lk_level_Witness_1_92 (L : Nat) : Ev.look (G_level_Witness_1 L) 92 = some (s_cmp_Or_int L) := nr rfl
theorem lk_level_Witness_1_93 (L : Nat) : Ev.look (G_level_Witness_1 L) 93 = some (s_cmp_Compare_Quanta L) := nr rfl
attribute [local go_sem] Ty.tk3 Ty.ik3 Ty.ek3 Ty.zv3 Ty.by3 Ty.so3 Ty.tk4 Ty.ub4 Ty.ek4 Ty.zv4 Ty.by4 Ty.so4 Ty.tk22 Ty.zv22 Ty.by22 Ty.so22 Ty.tk24 Ty.ik24 Ty.ek24 Ty.zv24 Ty.by24 Ty.so24 Ty.tk35 Ty.ct35 Ty.ek35 Ty.zv35 Ty.by35 Ty.so35 Ty.tk43 Ty.zv43 Ty.by43 Ty.so43 Ty.tk45 Ty.ct45 Ty.zv45 Ty.by45 Ty.so45 Ty.k22_e Ty.k35_e Ty.k43_e Ty.k45_e E.dw91_1 E.kl91_1 E.nc91_1 E.mk91_1000000 lk_level_Witness_1_92 lk_level_Witness_1_93 s_cmp_Or_int_run s_cmp_Compare_Quanta_run loopN loops Try.f91
theorem e_level_Witness_1 (L : Nat) (hL : L ≤ 4611686018427387904) (a0 : Int) (a1 : Int) (a2_0 : Int) (a2_1 : Int) (a2_2 : List (Int × Int × Bool × Unit)) (res : Int) (h : p_level_Witness_1 L a0 a1 a2_0 a2_1 a2_2 = some res) : evTop Try.prog (G_level_Witness_1 L) T_level_Witness_1 L 1 91 [.int .i64 a0, .int .i64 a1, .ptr (.agg 45 [.int .i64 a2_0, .int .i64 a2_1, .sl 35 (a2_2.map k35.e)])] = some [.int .i64 res] := by
  revert h
  unfold p_level_Witness_1 evTop
  simp only [List.map]
  rw [evF_s (fn := Try.f91) (msk := en91.ms) (hT := by rfl) (hb := by rfl)]
  refine idx_i fun x1 c1 c2 c3 => ?_
  refine idx_i fun x2 c4 c5 c6 => ?_
  refine bnd_i fun r3 c7 => ?_
  refine bnd_i fun r4 c8 => ?_
  have c9 := s_cmp_Or_int_run L [r3, (i64.wrap (a0 - a1))]
  simp only [go_sem, Nat.reduceAdd, Nat.reduceSub, Nat.reduceMul, Nat.reduceEqDiff, Nat.reduceBEq, Nat.reduceLT, Nat.reduceLeDiff, Nat.reducePow, Int.reduceToNat, Int.reduceLT, Int.reduceLE, Int.reduceGT, Int.reduceGE, Int.reduceEq, Int.reduceNeg, Int.reduceAdd, Int.reduceSub, Int.reduceMul, ↓reduceIte, reduceCtorEq] at c9
  rintro ⟨⟩
  simp only [go_sem, Nat.reduceAdd, Nat.reduceSub, Nat.reduceMul, Nat.reduceEqDiff, Nat.reduceBEq, Nat.reduceLT, Nat.reduceLeDiff, Nat.reducePow, Int.reduceToNat, Int.reduceLT, Int.reduceLE, Int.reduceGT, Int.reduceGE, Int.reduceEq, Int.reduceNeg, Int.reduceAdd, Int.reduceSub, Int.reduceMul, ↓reduceIte, reduceCtorEq, *]
noncomputable def s_level_Witness_1 (L : Nat) : Ev.Spec := specP (cCons (cI .i64) (cCons (cI .i64) (cCons (cP k45) cNil))) (fun x => p_level_Witness_1 L x.1 x.2.1 x.2.2.1.1 x.2.2.1.2.1 x.2.2.1.2.2.1) (fun r => [.int .i64 r])
theorem s_level_Witness_1_run (L : Nat) (a0 : Int) (a1 : Int) (a2_0 : Int) (a2_1 : Int) (a2_2 : List (Int × Int × Bool × Unit)) : (s_level_Witness_1 L).run [.int .i64 a0, .int .i64 a1, .ptr (.agg 45 [.int .i64 a2_0, .int .i64 a2_1, .sl 35 (a2_2.map k35.e)])] = (p_level_Witness_1 L a0 a1 a2_0 a2_1 a2_2).map fun r => [.int .i64 r] := specP_run (cCons (cI .i64) (cCons (cI .i64) (cCons (cP k45) cNil))) (fun x => p_level_Witness_1 L x.1 x.2.1 x.2.2.1.1 x.2.2.1.2.1 x.2.2.1.2.2.1) (fun r => [.int .i64 r]) (a0, a1, (a2_0, a2_1, a2_2, ()), ())
theorem ok_level_Witness_1 (L : Nat) (hL : L ≤ 4611686018427387904) : SpecOk Try.prog 91 (s_level_Witness_1 L) := specP_ok mixed (Go_level_Witness_1 L hL) (To_level_Witness_1 L) fun x r h => ⟨L, 1, e_level_Witness_1 L hL x.1 x.2.1 x.2.2.1.1 x.2.2.1.2.1 x.2.2.1.2.2.1 r h⟩
def sk_level_Witness_1 : Ev.Spec := specK (c := (cCons (cI .i64) (cCons (cI .i64) (cCons (cP k45) cNil)))) (dCons (dI .i64) (dCons (dI .i64) (dCons (dP (dA 45 (dCons (dI .i64) (dCons (dI .i64) (dCons (dL 35 (dA 35 (dCons (dI .i64) (dCons (dI .i64) (dCons dB dNil))))) dNil))))) dNil))) (fun x => p_level_Witness_1 1000 x.1 x.2.1 x.2.2.1.1 x.2.2.1.2.1 x.2.2.1.2.2.1) (fun r => [.int .i64 r])
theorem okk_level_Witness_1 : SpecOk Try.prog 91 sk_level_Witness_1 := specK_ok (dCons (dI .i64) (dCons (dI .i64) (dCons (dP (dA 45 (dCons (dI .i64) (dCons (dI .i64) (dCons (dL 35 (dA 35 (dCons (dI .i64) (dCons (dI .i64) (dCons dB dNil))))) dNil))))) dNil))) mixed (Go_level_Witness_1 1000 (by decide)) (To_level_Witness_1 1000) fun x r h => ⟨1000, 1, e_level_Witness_1 1000 (by decide) x.1 x.2.1 x.2.2.1.1 x.2.2.1.2.1 x.2.2.1.2.2.1 r h⟩
end Go.Proofs.Ytnojehmbiceceaa.P
end
section
set_option linter.unusedVariables false
set_option linter.unusedSimpArgs false
set_option maxRecDepth 100000
namespace Go.Proofs.Ytnojehmbiceceaa.E
open Go.Ev
noncomputable def en21 : Entry := ⟨Try.f21, [(0, mb 57 0 [2, 4, 8, 33, 34, 35]), (1000001, mb 57 0 [4, 8]), (1000002, mb 57 0 [2, 4, 8, 33, 34, 35]), (1000000, mb 57 0 [4, 5]), (5000004, mb 57 0 [8])]⟩
theorem dw21_4 (lv : Nat) (env : List V) (st : Store) (o : Option (List V × Store)) : drawR en21.ms 4 lv env st o = if lv < 1000000000000000000000000000000 then (if (!(st (lv, 8)).live && true) = true then (o) else none) else none := nr rfl
theorem kl21_4 (lv : Nat) (st : Store) : killR en21.ms 4 lv st = killAt (st) (lv, 8) := nr rfl
theorem nc21_4 : ncOf en21.ms 4 = false := nr rfl
theorem dw21_8 (lv : Nat) (env : List V) (st : Store) (o : Option (List V × Store)) : drawR en21.ms 8 lv env st o = if lv < 1000000000000000000000000000000 then (o) else none := nr rfl
theorem kl21_8 (lv : Nat) (st : Store) : killR en21.ms 8 lv st = st := nr rfl
theorem nc21_8 : ncOf en21.ms 8 = false := nr rfl
theorem mk21_0 (vs : List V) : mask (maskOf en21.ms 0) vs = km 57 0 [2, 4, 8, 33, 34, 35] vs := mask_mb _ _ _ _
theorem mk21_1000001 (vs : List V) : mask (maskOf en21.ms 1000001) vs = km 57 0 [4, 8] vs := mask_mb _ _ _ _
theorem mk21_1000002 (vs : List V) : mask (maskOf en21.ms 1000002) vs = km 57 0 [2, 4, 8, 33, 34, 35] vs := mask_mb _ _ _ _
theorem mk21_1000000 (vs : List V) : mask (maskOf en21.ms 1000000) vs = km 57 0 [4, 5] vs := mask_mb _ _ _ _
theorem fz21_0 (lv : Nat) (f : Run) : frzF en21.ms lv 0 f = f := nr rfl
noncomputable def lb21_0 : Code := loopN Try.f21 0
end Go.Proofs.Ytnojehmbiceceaa.E
end
section
set_option linter.unusedVariables false
set_option maxRecDepth 100000
namespace Go.Proofs.Ytnojehmbiceceaa.K
open Go.Ev Go.Proofs.Ytnojehmbiceceaa.P Go.Proofs.Ytnojehmbiceceaa.Ty Go.Proofs.Ytnojehmbiceceaa.E
def Gkn : Specs := [(174, sk_level_known_1)]
theorem Gkno : ∀ g s, Ev.look Gkn g = some s → SpecOk Try.prog g s := specs_cons okk_level_known_1 specs_nil
def kCells : D := .agg 45 [.int .i64 3, .int .i64 1, .sl 35 [.agg 35 [.int .i64 4, .int .i64 9, .bool false], .agg 35 [.int .i64 5, .int .i64 7, .bool false], .agg 35 [.int .i64 6, .int .i64 8, .bool false]]]
noncomputable def Tkn : Table := tableOf [(88, en88), (173, en173), (214, en214), (250, en250), (251, en251), (263, en263), (267, en267)]
theorem ekn : evTop Try.prog Gkn Tkn 1000 40 88 [kCells] = some [.sl 3 [.int .i64 0, .int .i64 1, .int .i64 2]] := by kernel_rfl
theorem Tkno : TableOk Try.prog (Gkn.map (·.1)) Tkn := (table_cons Try.func88 (by kernel_rfl) (by kernel_rfl) (table_cons Try.func173 (by kernel_rfl) (by kernel_rfl) (table_cons Try.func214 (by kernel_rfl) (by kernel_rfl) (table_cons Try.func250 (by kernel_rfl) (by kernel_rfl) (table_cons Try.func251 (by kernel_rfl) (by kernel_rfl) (table_cons Try.func263 (by kernel_rfl) (by kernel_rfl) (table_cons Try.func267 (by kernel_rfl) (by kernel_rfl) table_nil)))))))
/-- The field of the check, told apart. -/
def isK : List D → Bool
  | [.agg t [.int .i64 3, .int .i64 1, .sl e [.agg t1 [.int .i64 4, .int .i64 9, .bool false], .agg t2 [.int .i64 5, .int .i64 7, .bool false], .agg t3 [.int .i64 6, .int .i64 8, .bool false]]]] => t == 45 && e == 35 && t1 == 35 && t2 == 35 && t3 == 35
  | _ => false
theorem isK_eq {xs : List D} (h : isK xs = true) : xs = [kCells] := by
  unfold isK at h
  split at h
  · simp only [Bool.and_eq_true, beq_iff_eq] at h
    obtain ⟨⟨⟨⟨rfl, rfl⟩, rfl⟩, rfl⟩, rfl⟩ := h
    rfl
  · cases h
def skn : Ev.Spec := ⟨fun xs => if isK xs = true then some [.sl 3 [.int .i64 0, .int .i64 1, .int .i64 2]] else none⟩
theorem skn_ok : SpecOk Try.prog 88 skn := spec_of_ev mixed Gkno Tkno fun xs rs hr => by
  simp only [skn] at hr
  split at hr
  · rename_i h
    cases hr
    rw [isK_eq h]
    exact ⟨1000, 40, ekn⟩
  · cases hr
/-! ### level.Of at the same field -/
def Gof : Specs := [(88, skn), (91, sk_level_Witness_1)]
theorem Gofo : ∀ g s, Ev.look Gof g = some s → SpecOk Try.prog g s := specs_cons skn_ok (specs_cons okk_level_Witness_1 specs_nil)
noncomputable def Tof : Table := tableOf [(21, en21), (22, en22), (89, en89), (90, en90), (94, en94), (95, en95), (96, en96), (99, en99), (176, en176), (177, en177), (215, en215), (216, en216), (217, en217), (218, en218), (219, en219), (220, en220), (221, en221), (222, en222), (223, en223), (224, en224), (225, en225), (252, en252), (253, en253), (254, en254), (255, en255), (256, en256), (257, en257), (264, en264)]
theorem eof : evTop Try.prog Gof Tof 1000 40 21 [kCells, .int .i64 2] = some [.agg 35 [.int .i64 5, .int .i64 7, .bool false], .int .i64 0] := by kernel_rfl
theorem Tofo : TableOk Try.prog (Gof.map (·.1)) Tof := (table_cons Try.func21 (by kernel_rfl) (by kernel_rfl) (table_cons Try.func22 (by kernel_rfl) (by kernel_rfl) (table_cons Try.func89 (by kernel_rfl) (by kernel_rfl) (table_cons Try.func90 (by kernel_rfl) (by kernel_rfl) (table_cons Try.func94 (by kernel_rfl) (by kernel_rfl) (table_cons Try.func95 (by kernel_rfl) (by kernel_rfl) (table_cons Try.func96 (by kernel_rfl) (by kernel_rfl) (table_cons Try.func99 (by kernel_rfl) (by kernel_rfl) (table_cons Try.func176 (by kernel_rfl) (by kernel_rfl) (table_cons Try.func177 (by kernel_rfl) (by kernel_rfl) (table_cons Try.func215 (by kernel_rfl) (by kernel_rfl) (table_cons Try.func216 (by kernel_rfl) (by kernel_rfl) (table_cons Try.func217 (by kernel_rfl) (by kernel_rfl) (table_cons Try.func218 (by kernel_rfl) (by kernel_rfl) (table_cons Try.func219 (by kernel_rfl) (by kernel_rfl) (table_cons Try.func220 (by kernel_rfl) (by kernel_rfl) (table_cons Try.func221 (by kernel_rfl) (by kernel_rfl) (table_cons Try.func222 (by kernel_rfl) (by kernel_rfl) (table_cons Try.func223 (by kernel_rfl) (by kernel_rfl) (table_cons Try.func224 (by kernel_rfl) (by kernel_rfl) (table_cons Try.func225 (by kernel_rfl) (by kernel_rfl) (table_cons Try.func252 (by kernel_rfl) (by kernel_rfl) (table_cons Try.func253 (by kernel_rfl) (by kernel_rfl) (table_cons Try.func254 (by kernel_rfl) (by kernel_rfl) (table_cons Try.func255 (by kernel_rfl) (by kernel_rfl) (table_cons Try.func256 (by kernel_rfl) (by kernel_rfl) (table_cons Try.func257 (by kernel_rfl) (by kernel_rfl) (table_cons Try.func264 (by kernel_rfl) (by kernel_rfl) table_nil))))))))))))))))))))))))))))
def isO : List D → Bool
  | [x, .int .i64 2] => isK [x]
  | _ => false
theorem isO_eq {xs : List D} (h : isO xs = true) : xs = [kCells, .int .i64 2] := by
  unfold isO at h
  split at h
  · rename_i x
    have := isK_eq h
    simp only [List.cons.injEq, and_true] at this
    rw [this]
  · cases h
def sof : Ev.Spec := ⟨fun xs => if isO xs = true then some [.agg 35 [.int .i64 5, .int .i64 7, .bool false], .int .i64 0] else none⟩
theorem sof_ok : SpecOk Try.prog 21 sof := spec_of_ev mixed Gofo Tofo fun xs rs hr => by
  simp only [sof] at hr
  split at hr
  · rename_i h
    cases hr
    rw [isO_eq h]
    exact ⟨1000, 40, eof⟩
  · cases hr
end Go.Proofs.Ytnojehmbiceceaa.K
end
