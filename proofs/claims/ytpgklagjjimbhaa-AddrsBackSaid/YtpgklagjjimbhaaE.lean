/- YtpgklagjjimbhaaE: what is told of the program beside its text. No claim. -/
import Derived.Test.Ytpgklagjjimbhaa27
import Derived.Test.YtpgklagjjimbhaaRows
set_option linter.unusedVariables false
set_option linter.unusedSimpArgs false
set_option maxRecDepth 100000
namespace Go.Proofs.Ytpgklagjjimbhaa
open Go Go.Proofs.Ytpgklagjjimbhaa.V
def annT : List (Nat × Nat × List Nat) := [(7, 5, [0, 1, 5, 6]), (8, 8, [0, 1, 5, 6, 8]), (8, 17, [6, 9, 11, 13, 15]), (8, 21, [6, 9, 13, 16]), (13, 8, [0, 3, 4, 6]), (13, 18, [4, 7, 9, 12, 15, 17]), (13, 22, [4, 7, 12, 15, 18]), (13, 26, [4, 7, 15, 19]), (18, 14, [0, 2, 11, 12, 15, 16]), (19, 5, [0, 1, 5, 6]), (19, 14, [0, 1, 5, 7, 8, 9, 10, 11, 13]), (19, 17, [0, 1, 5, 7, 8, 9, 10, 11, 13, 14]), (24, 6, [0, 1, 2, 7, 9, 10, 11]), (25, 13, [0, 3, 9, 10, 11, 14]), (27, 2, [0, 3]), (28, 3, [4, 7, 8, 9]), (29, 2, [0, 3]), (30, 3, [0, 3, 4]), (31, 3, [0, 3, 4, 5]), (32, 3, [0, 3, 4, 5]), (33, 4, [0, 1, 5]), (36, 2, [0, 1, 5]), (37, 2, [0, 7, 8, 9]), (38, 3, [0, 1, 5, 6]), (38, 5, [0, 1, 5, 6]), (39, 3, [3, 7, 8, 9]), (40, 2, [0, 3]), (51, 5, [1, 5, 6]), (58, 6, [3, 5, 6]), (59, 3, [0, 1, 4, 6, 9, 10, 11]), (60, 3, [0, 1, 4, 6, 7]), (60, 11, [0, 1, 4, 6, 7, 8, 9]), (61, 12, [0, 3, 6, 7, 52, 53]), (62, 11, [3, 6]), (63, 5, [3, 5, 6, 7]), (63, 17, [3, 5, 9]), (64, 3, [0, 1, 6, 7, 12, 13, 14]), (65, 4, [0, 1, 6, 7, 8]), (73, 6, [5, 7, 9]), (73, 9, [5, 7, 9, 10]), (73, 14, [5, 7, 9, 11]), (82, 4, [1, 2, 15, 16, 17]), (84, 2, [0, 1, 7, 8]), (95, 3, [3, 9, 10, 11]), (101, 5, [0, 2, 8, 16, 17]), (102, 3, [0, 1, 5, 6]), (104, 5, [0, 1, 6, 18, 19]), (106, 1, [0, 2, 3])]
def regT : List (Nat × Nat × List (List Nat)) := [(3, 7, [[], [0], [0, 1], [0, 1, 2], [0, 1, 2, 3], [0, 1, 2], [0, 1, 2, 5], [0, 1, 2, 5, 6], [0, 1, 2, 3, 4, 5, 6, 7], [0, 1, 2, 3, 4, 5, 6, 7, 8], [0, 1, 2, 3, 4, 5, 6, 7, 8, 9]]), (5, 7, [[], [], [0, 1], [0, 1, 2], [0, 1, 2, 3], [0, 1, 2, 3], [0, 1, 2, 3, 4, 5], [0, 1, 2, 3, 4, 5, 6], [0, 1, 2, 3, 4, 5, 6, 7], [0, 1, 2, 3, 4, 5, 6, 7, 8], [0, 1, 2, 3, 4, 5, 6, 7, 8, 9], [0, 1, 2, 3, 4, 5, 6, 7, 8, 9, 10], [0, 1, 2, 3, 4, 5, 6, 7, 8, 9, 10, 11], [0, 1, 2, 3, 4, 5, 6, 7, 8, 9, 10, 11, 12], [0, 1, 2, 3, 4, 5, 6, 7, 8, 9, 10, 11, 12, 13], [0, 1, 2, 3, 4, 5, 6, 7, 8, 9, 10, 11, 12], [0, 1, 2, 3, 4, 5, 6, 7, 8, 9, 10, 11, 12, 15], [0, 1, 2, 3, 4, 5, 6, 7, 8, 9, 10, 11, 12, 13, 14, 15, 16], [0, 1, 2, 3, 4, 5, 6, 7, 8, 9, 10, 11, 12], [0, 1, 2, 3, 4, 5, 6, 7, 8, 9, 10, 11, 12], [0, 1, 2, 3, 4, 5, 6, 7, 8, 9, 10, 11, 12, 18, 19], [0, 1, 2, 3, 4, 5, 6, 7, 8, 9, 10, 11, 12, 13, 14, 15, 16, 17, 18, 19, 20], [0, 1, 2, 3, 4, 5, 6, 7, 8, 9, 10, 11, 12, 13, 14, 15, 16, 17, 18, 19, 20, 21], [0, 1, 2, 3, 4, 5, 6, 7, 8, 9, 10, 11, 12, 13, 14, 15, 16, 17, 18, 19, 20, 21, 22]]), (6, 5, [[], [], [1], [0, 1, 2], [0, 1, 2, 3], [0, 1, 2, 3, 4], [0, 1, 2, 3, 4, 5], [0, 1, 2, 3, 4, 5, 6], [0, 1, 2, 3, 4, 5, 6, 7], [0, 1, 2, 3, 4, 5, 6], [0, 1, 2, 3, 4, 5, 6], [0, 1, 2, 3, 4, 5, 6, 9, 10], [0, 1, 2, 3, 4, 5, 6, 9, 10, 11], [0, 1, 2, 3, 4, 5, 6, 9, 10, 11, 12], [0, 1, 2, 3, 4, 5, 6, 9, 10, 11, 12, 13], [0, 1, 2, 3, 4, 5, 6, 7, 8, 9, 10, 11, 12, 13, 14], [0, 1, 2, 3, 4, 5, 6, 7, 8, 9, 10, 11, 12, 13, 14, 15], [0, 1, 2, 3, 4, 5, 6, 7, 8, 9, 10, 11, 12, 13, 14, 15, 16], [0, 1, 2, 3, 4, 5, 6, 7, 8, 9, 10, 11, 12, 13, 14, 15, 16, 17], [0, 1, 2, 3, 4, 5, 6, 7, 8, 9, 10, 11, 12, 13, 14, 15, 16, 17, 18], [0, 1, 2, 3, 4, 5, 6, 7, 8, 9, 10, 11, 12, 13, 14, 15, 16, 17, 18, 19], [0, 1, 2, 3, 4, 5, 6, 7, 8, 9, 10, 11, 12, 13, 14, 15, 16, 17, 18, 19, 20], [0, 1, 2, 3, 4, 5, 6, 7, 8, 9, 10, 11, 12, 13, 14, 15, 16, 17, 18, 19, 20, 21], [0, 1, 2, 3, 4, 5, 6, 7, 8, 9, 10, 11, 12, 13, 14, 15, 16, 17, 18, 19, 20, 21, 22], [0, 1, 2, 3, 4, 5, 6, 7, 8, 9, 10, 11, 12, 13, 14, 15, 16, 17, 18, 19, 20, 21, 22, 23], [0, 1, 2, 3, 4, 5, 6, 7, 8, 9, 10, 11, 12, 13, 14, 15, 16, 17, 18, 19, 20, 21, 22, 23, 24], [0, 1, 2, 3, 4, 5, 6, 7, 8, 9, 10, 11, 12, 13, 14, 15, 16, 17, 18, 19, 20, 21, 22, 23, 24, 25]]), (11, 13, [[], [0], [0, 1], [0, 1, 2], [0, 1, 2, 3], [0, 1, 2], [0, 1, 2, 5], [0, 1, 2, 3, 4, 5, 6], [0, 1, 2, 3, 4, 5, 6, 7], [0, 1, 2, 3, 4, 5, 6, 7, 8], [0, 1, 2, 3, 4, 5, 6, 7, 8, 9], [0, 1, 2, 3, 4, 5, 6, 7, 8, 9, 10], [0, 1, 2, 3, 4, 5, 6, 7, 8, 9], [0, 1, 2, 3, 4, 5, 6, 7, 8, 9], [0, 1, 2, 3, 4, 5, 6, 7, 8, 9, 13], [0, 1, 2, 3, 4, 5, 6, 7, 8, 9, 12, 13, 14], [0, 1, 2, 3, 4, 5, 6, 7, 8, 9, 12, 13, 14, 15], [0, 1, 2, 3, 4, 5, 6, 7, 8, 9, 10, 11, 12, 13, 14, 15, 16], [0, 1, 2, 3, 4, 5, 6, 7, 8, 9, 10, 11, 12, 13, 14, 15, 16, 17], [0, 1, 2, 3, 4, 5, 6, 7, 8, 9, 10, 11, 12, 13, 14, 15, 16, 17, 18]]), (12, 9, [[], [], [0, 1], [0, 1, 2], [0, 1, 2, 3], [0, 1, 2, 3], [0, 1, 2, 3, 4, 5], [0, 1, 2, 3, 4, 5, 6], [0, 1, 2, 3, 4, 5, 6, 7], [0, 1, 2, 3, 4, 5, 6, 7, 8], [0, 1, 2, 3, 4, 5, 6, 7, 8], [0, 1, 2, 3, 4, 5, 6, 7, 8, 9, 10], [0, 1, 2, 3, 4, 5, 6, 7, 8, 9, 10, 11], [0, 1, 2, 3, 4, 5, 6, 7, 8, 9, 10, 11, 12], [0, 1, 2, 3, 4, 5, 6, 7, 8, 9, 10, 11, 12, 13], [0, 1, 2, 3, 4, 5, 6, 7, 8, 9, 10, 11, 12, 13, 14], [0, 1, 2, 3, 4, 5, 6, 7, 8, 9, 10, 11, 12, 13], [0, 1, 2, 3, 4, 5, 6, 7, 8, 9, 10, 11, 12, 13, 16], [0, 1, 2, 3, 4, 5, 6, 7, 8, 9, 10, 11, 12, 13, 14, 15, 16, 17], [0, 1, 2, 3, 4, 5, 6, 7, 8, 9, 10, 11, 12, 13, 14, 15, 16, 17, 18], [0, 1, 2, 3, 4, 5, 6, 7, 8, 9, 10, 11, 12, 13, 14, 15, 16, 17, 18, 19], [0, 1, 2, 3, 4, 5, 6, 7, 8, 9, 10, 11, 12, 13, 14, 15, 16, 17, 18, 19, 20], [0, 1, 2, 3, 4, 5, 6, 7, 8, 9, 10, 11, 12, 13, 14, 15, 16, 17, 18, 19, 20], [0, 1, 2, 3, 4, 5, 6, 7, 8, 9, 10, 11, 12, 13, 14, 15, 16, 17, 18, 19, 20, 21, 22], [0, 1, 2, 3, 4, 5, 6, 7, 8, 9, 10, 11, 12, 13, 14, 15, 16, 17, 18, 19, 20, 21, 22, 23], [0, 1, 2, 3, 4, 5, 6, 7, 8, 9, 10, 11, 12, 13, 14, 15, 16, 17, 18, 19, 20, 21, 22, 23, 24], [0, 1, 2, 3, 4, 5, 6, 7, 8, 9, 10, 11, 12, 13, 14, 15, 16, 17, 18, 19, 20, 21, 22, 23, 24, 25], [0, 1, 2, 3, 4, 5, 6, 7, 8, 9, 10, 11, 12, 13, 14, 15, 16, 17, 18, 19, 20, 21, 22, 23, 24, 25], [0, 1, 2, 3, 4, 5, 6, 7, 8, 9, 10, 11, 12, 13, 14, 15, 16, 17, 18, 19, 20, 21, 22, 23, 24, 25, 26, 27], [0, 1, 2, 3, 4, 5, 6, 7, 8, 9, 10, 11, 12, 13, 14, 15, 16, 17, 18, 19, 20, 21, 22, 23, 24, 25, 26, 27, 28], [0, 1, 2, 3, 4, 5, 6, 7, 8, 9, 10, 11, 12, 13, 14, 15, 16, 17, 18, 19, 20, 21, 22, 23, 24, 25, 26, 27, 28, 29], [0, 1, 2, 3, 4, 5, 6, 7, 8, 9, 10, 11, 12, 13, 14, 15, 16, 17, 18, 19, 20, 21, 22, 23, 24, 25, 26, 27, 28, 29, 30], [0, 1, 2, 3, 4, 5, 6, 7, 8, 9, 10, 11, 12, 13, 14, 15, 16, 17, 18, 19, 20, 21, 22, 23, 24, 25, 26, 27, 28, 29, 30, 31], [0, 1, 2, 3, 4, 5, 6, 7, 8, 9, 10, 11, 12, 13, 14, 15, 16, 17, 18, 19, 20, 21, 22, 23, 24, 25, 26, 27, 28, 29, 30], [0, 1, 2, 3, 4, 5, 6, 7, 8, 9, 10, 11, 12, 13, 14, 15, 16, 17, 18, 19, 20, 21, 22, 23, 24, 25, 26, 27, 28, 29, 30, 33], [0, 1, 2, 3, 4, 5, 6, 7, 8, 9, 10, 11, 12, 13, 14, 15, 16, 17, 18, 19, 20, 21, 22, 23, 24, 25, 26, 27, 28, 29, 30, 31, 32, 33, 34], [0, 1, 2, 3, 4, 5, 6, 7, 8, 9, 10, 11, 12, 13, 14, 15, 16, 17, 18, 19, 20, 21, 22, 23, 24, 25, 26, 27, 28, 29, 30, 31, 32, 33, 34, 35], [0, 1, 2, 3, 4, 5, 6, 7, 8, 9, 10, 11, 12, 13, 14, 15, 16, 17, 18, 19, 20, 21, 22, 23, 24, 25, 26, 27, 28, 29, 30, 31, 32, 33, 34, 35, 36], [0, 1, 2, 3, 4, 5, 6, 7, 8, 9, 10, 11, 12, 13, 14, 15, 16, 17, 18, 19, 20, 21, 22, 23, 24, 25, 26, 27, 28, 29, 30, 31, 32, 33, 34, 35, 36, 37], [0, 1, 2, 3, 4, 5, 6, 7, 8, 9, 10, 11, 12, 13, 14, 15, 16, 17, 18, 19, 20, 21, 22, 23, 24, 25, 26, 27, 28, 29, 30, 31, 32, 33, 34, 35, 36, 37], [0, 1, 2, 3, 4, 5, 6, 7, 8, 9, 10, 11, 12, 13, 14, 15, 16, 17, 18, 19, 20, 21, 22, 23, 24, 25, 26, 27, 28, 29, 30, 31, 32, 33, 34, 35, 36, 37, 38, 39], [0, 1, 2, 3, 4, 5, 6, 7, 8, 9, 10, 11, 12, 13, 14, 15, 16, 17, 18, 19, 20, 21, 22, 23, 24, 25, 26, 27, 28, 29, 30, 31, 32, 33, 34, 35, 36, 37, 38, 39, 40], [0, 1, 2, 3, 4, 5, 6, 7, 8, 9, 10, 11, 12, 13, 14, 15, 16, 17, 18, 19, 20, 21, 22, 23, 24, 25, 26, 27, 28, 29, 30, 31, 32, 33, 34, 35, 36, 37, 38, 39, 40, 41], [0, 1, 2, 3, 4, 5, 6, 7, 8, 9, 10, 11, 12, 13, 14, 15, 16, 17, 18, 19, 20, 21, 22, 23, 24, 25, 26, 27, 28, 29, 30, 31, 32, 33, 34, 35, 36, 37, 38, 39, 40, 41, 42], [0, 1, 2, 3, 4, 5, 6, 7, 8, 9, 10, 11, 12, 13, 14, 15, 16, 17, 18, 19, 20, 21, 22, 23, 24, 25, 26, 27, 28, 29, 30, 31, 32, 33, 34, 35, 36, 37, 38, 39, 40, 41, 42], [0, 1, 2, 3, 4, 5, 6, 7, 8, 9, 10, 11, 12, 13, 14, 15, 16, 17, 18, 19, 20, 21, 22, 23, 24, 25, 26, 27, 28, 29, 30, 31, 32, 33, 34, 35, 36, 37, 38, 39, 40, 41, 42, 43, 44], [0, 1, 2, 3, 4, 5, 6, 7, 8, 9, 10, 11, 12, 13, 14, 15, 16, 17, 18, 19, 20, 21, 22, 23, 24, 25, 26, 27, 28, 29, 30, 31, 32, 33, 34, 35, 36, 37, 38, 39, 40, 41, 42], [0, 1, 2, 3, 4, 5, 6, 7, 8, 9, 10, 11, 12, 13, 14, 15, 16, 17, 18, 19, 20, 21, 22, 23, 24, 25, 26, 27, 28, 29, 30, 31, 32, 33, 34, 35, 36, 37, 38, 39, 40, 41, 42], [0, 1, 2, 3, 4, 5, 6, 7, 8, 9, 10, 11, 12, 13, 14, 15, 16, 17, 18, 19, 20, 21, 22, 23, 24, 25, 26, 27, 28, 29, 30, 31, 32, 33, 34, 35, 36, 37, 38, 39, 40, 41, 42, 43, 44, 45, 46, 47], [0, 1, 2, 3, 4, 5, 6, 7, 8, 9, 10, 11, 12, 13, 14, 15, 16, 17, 18, 19, 20, 21, 22, 23, 24, 25, 26, 27, 28, 29, 30, 31, 32, 33, 34, 35, 36, 37, 38, 39, 40, 41, 42, 43, 44, 45, 46, 47, 48], [0, 1, 2, 3, 4, 5, 6, 7, 8, 9, 10, 11, 12, 13, 14, 15, 16, 17, 18, 19, 20, 21, 22, 23, 24, 25, 26, 27, 28, 29, 30, 31, 32, 33, 34, 35, 36, 37, 38, 39, 40, 41, 42, 43, 44, 45, 46, 47, 48, 49], [0, 1, 2, 3, 4, 5, 6, 7, 8, 9, 10, 11, 12, 13, 14, 15, 16, 17, 18, 19, 20, 21, 22, 23, 24, 25, 26, 27, 28, 29, 30, 31, 32, 33, 34, 35, 36, 37, 38, 39, 40, 41, 42, 43, 44, 45, 46, 47, 48, 49, 50], [0, 1, 2, 3, 4, 5, 6, 7, 8, 9, 10, 11, 12, 13, 14, 15, 16, 17, 18, 19, 20, 21, 22, 23, 24, 25, 26, 27, 28, 29, 30, 31, 32, 33, 34, 35, 36, 37, 38, 39, 40, 41, 42, 43, 44, 45, 46, 47, 48, 49, 50, 51], [0, 1, 2, 3, 4, 5, 6, 7, 8, 9, 10, 11, 12, 13, 14, 15, 16, 17, 18, 19, 20, 21, 22, 23, 24, 25, 26, 27, 28, 29, 30, 31, 32, 33, 34, 35, 36, 37, 38, 39, 40, 41, 42, 43, 44, 45, 46, 47, 48, 49, 50, 51], [0, 1, 2, 3, 4, 5, 6, 7, 8, 9, 10, 11, 12, 13, 14, 15, 16, 17, 18, 19, 20, 21, 22, 23, 24, 25, 26, 27, 28, 29, 30, 31, 32, 33, 34, 35, 36, 37, 38, 39, 40, 41, 42, 43, 44, 45, 46, 47, 48, 49, 50, 51, 52, 53], [0, 1, 2, 3, 4, 5, 6, 7, 8, 9, 10, 11, 12, 13, 14, 15, 16, 17, 18, 19, 20, 21, 22, 23, 24, 25, 26, 27, 28, 29, 30, 31, 32, 33, 34, 35, 36, 37, 38, 39, 40, 41, 42, 43, 44, 45, 46, 47, 48, 49, 50, 51, 52, 53, 54], [0, 1, 2, 3, 4, 5, 6, 7, 8, 9, 10, 11, 12, 13, 14, 15, 16, 17, 18, 19, 20, 21, 22, 23, 24, 25, 26, 27, 28, 29, 30, 31, 32, 33, 34, 35, 36, 37, 38, 39, 40, 41, 42, 43, 44, 45, 46, 47, 48, 49, 50, 51, 52, 53, 54, 55]]), (14, 3, [[], [], [1], [0, 1, 2], [], [], [5], [0, 1, 2, 3, 4, 5, 6], [0, 1, 2, 3, 4, 5, 6, 7], [0, 1, 2, 3, 4, 5, 6, 7, 8], [0, 1, 2, 3, 4, 5, 6, 7, 8, 9], [0, 1, 2, 3, 4, 5, 6, 7, 8, 9], [0, 1, 2, 3, 4, 5, 6, 7, 8, 9, 10, 11], [0, 1, 2, 3, 4, 5, 6, 7, 8, 9], [0, 1, 2, 3, 4, 5, 6, 7, 8, 9], [0, 1, 2, 3, 4, 5, 6, 7, 8, 9, 10, 11, 12, 13, 14], [0, 1, 2, 3, 4, 5, 6, 7, 8, 9, 10, 11, 12, 13, 14, 15], [0, 1, 2, 3, 4, 5, 6, 7, 8, 9, 10, 11, 12, 13, 14, 15, 16], [0, 1, 2, 3, 4, 5, 6, 7, 8, 9, 10, 11, 12, 13, 14, 15, 16, 17]]), (18, 16, [[], [], [], [1, 2], [1, 2, 3], [0, 1, 2, 3, 4], [0, 1, 2, 3, 4, 5], [0, 1, 2, 3, 4, 5, 6], [0, 1, 2, 3, 4, 5, 6], [0, 1, 2, 3, 4, 5, 6, 7, 8], [0, 1, 2, 3, 4, 5, 6], [0, 1, 2, 3, 4, 5, 6], [0, 1, 2, 3, 4, 5, 6, 10, 11], [0, 1, 2, 3, 4, 5, 6, 10, 11, 12], [0, 1, 2, 3, 4, 5, 6, 10, 11, 12, 13], [0, 1, 2, 3, 4, 5, 6, 7, 8, 9, 10, 11, 12, 13, 14], [0, 1, 2, 3, 4, 5, 6, 7, 8, 9, 10, 11, 12, 13, 14, 15], [0, 1, 2, 3, 4, 5, 6, 7, 8, 9, 10, 11, 12, 13, 14, 15, 16]]), (19, 7, [[], [], [], [1, 2], [1, 2, 3], [1, 2, 3, 4], [], [], [], [7, 8], [7, 8, 9], [7, 8, 9, 10], [6, 7, 8, 9, 10, 11], [1, 2, 3, 4, 5, 6, 7, 8, 9, 10, 11, 12], [1, 2, 3, 4, 5, 6, 7, 8, 9, 10, 11, 12, 13], [0, 1, 2, 3, 4, 5, 6, 7, 8, 9, 10, 11, 12, 13, 14], [0, 1, 2, 3, 4, 5, 6, 7, 8, 9, 10, 11, 12, 13, 14, 15]]), (19, 19, [[], [], [0, 1], [0, 1, 2], [0, 1, 2, 3], [], [], [], [6, 7], [6, 7, 8], [6, 7, 8, 9], [], [6, 7, 8, 9, 10, 11], [6, 7, 8, 9, 10, 11, 12], [6, 7, 8, 9, 10, 11, 12, 13], [0, 1, 2, 3, 4, 5, 6, 7, 8, 9, 10, 11, 12, 13, 14], [0, 1, 2, 3, 4, 5, 6, 7, 8, 9, 10, 11, 12, 13, 14, 15]]), (20, 3, [[], [], [0, 1], [], [], [0, 1, 2, 3, 4], [0, 1, 2, 3, 4, 5], [0, 1, 2, 3, 4, 5, 6], [0, 1, 2, 3, 4, 5, 6, 7], [0, 1, 2, 3, 4, 5, 6, 7], [0, 1, 2, 3, 4, 5, 6, 7, 8, 9], [0, 1, 2, 3, 4, 5, 6, 7], [0, 1, 2, 3, 4, 5, 6, 7], [0, 1, 2, 3, 4, 5, 6, 7, 8, 9, 10, 11, 12], [0, 1, 2, 3, 4, 5, 6, 7, 8, 9, 10, 11, 12, 13], [0, 1, 2, 3, 4, 5, 6, 7, 8, 9, 10, 11, 12, 13, 14], [0, 1, 2, 3, 4, 5, 6, 7, 8, 9, 10, 11, 12, 13, 14, 15], [0, 1, 2, 3, 4, 5, 6, 7, 8, 9, 10, 11, 12, 13, 14, 15, 16], [0, 1, 2, 3, 4, 5, 6, 7, 8, 9, 10, 11, 12, 13, 14, 15, 16], [0, 1, 2, 3, 4, 5, 6, 7, 8, 9, 10, 11, 12, 13, 14, 15, 16, 17, 18], [0, 1, 2, 3, 4, 5, 6, 7, 8, 9, 10, 11, 12, 13, 14, 15, 16], [0, 1, 2, 3, 4, 5, 6, 7, 8, 9, 10, 11, 12, 13, 14, 15, 16], [0, 1, 2, 3, 4, 5, 6, 7, 8, 9, 10, 11, 12, 13, 14, 15, 16, 17, 18, 19, 20, 21], [0, 1, 2, 3, 4, 5, 6, 7, 8, 9, 10, 11, 12, 13, 14, 15, 16, 17, 18, 19, 20, 21, 22], [0, 1, 2, 3, 4, 5, 6, 7, 8, 9, 10, 11, 12, 13, 14, 15, 16, 17, 18, 19, 20, 21, 22, 23], [0, 1, 2, 3, 4, 5, 6, 7, 8, 9, 10, 11, 12, 13, 14, 15, 16, 17, 18, 19, 20, 21, 22, 23, 24]]), (21, 3, [[], [], [0, 1], [], [], [0, 1, 2, 3, 4], [0, 1, 2, 3, 4, 5], [0, 1, 2, 3, 4, 5, 6]]), (22, 5, [[], [0], [], [], [2, 3], [2, 3, 4], [0, 1, 2, 3, 4, 5], [0, 1, 2, 3, 4, 5, 6], [0, 1, 2, 3, 4, 5, 6, 7], [0, 1, 2, 3, 4, 5, 6, 7, 8], [0, 1, 2, 3, 4, 5, 6, 7], [0, 1, 2, 3, 4, 5, 6, 7, 10], [0, 1, 2, 3, 4, 5, 6, 7], [0, 1, 2, 3, 4, 5, 6, 7], [0, 1, 2, 3, 4, 5, 6, 7, 10, 11, 12, 13], [0, 1, 2, 3, 4, 5, 6, 7, 10, 11, 12, 13, 14], [0, 1, 2, 3, 4, 5, 6, 7, 8, 9, 10, 11, 12, 13, 14, 15], [0, 1, 2, 3, 4, 5, 6, 7, 8, 9, 10, 11, 12, 13, 14, 15, 16], [0, 1, 2, 3, 4, 5, 6, 7, 8, 9, 10, 11, 12, 13, 14, 15, 16, 17]]), (23, 11, [[], [], [0, 1], [], [3], [3, 4], [0, 1, 2, 3, 4, 5], [0, 1, 2, 3, 4, 5, 6], [0, 1, 2, 3, 4, 5, 6, 7], [0, 1, 2, 3, 4, 5, 6, 7, 8], [0, 1, 2, 3, 4, 5, 6, 7, 8, 9], [0, 1, 2, 3, 4, 5, 6, 7, 8, 9, 10], [0, 1, 2, 3, 4, 5, 6, 7, 8, 9, 10, 11], [0, 1, 2, 3, 4, 5, 6, 7, 8, 9, 10, 11, 12], [0, 1, 2, 3, 4, 5, 6, 7, 8, 9, 10, 11, 12, 13], [0, 1, 2, 3, 4, 5, 6, 7, 8, 9, 10, 11, 12, 13, 14], [0, 1, 2, 3, 4, 5, 6, 7, 8, 9, 10, 11, 12, 13, 14, 15], [0, 1, 2, 3, 4, 5, 6, 7, 8, 9, 10, 11, 12, 13, 14, 15, 16], [0, 1, 2, 3, 4, 5, 6, 7, 8, 9, 10, 11, 12, 13, 14, 15, 16, 17], [0, 1, 2, 3, 4, 5, 6, 7, 8, 9, 10, 11, 12, 13, 14, 15, 16, 17, 18], [0, 1, 2, 3, 4, 5, 6, 7, 8, 9, 10, 11, 12, 13, 14, 15, 16, 17, 18, 19], [0, 1, 2, 3, 4, 5, 6, 7, 8, 9, 10, 11, 12, 13, 14, 15, 16, 17, 18, 19, 20], [0, 1, 2, 3, 4, 5, 6, 7, 8, 9, 10, 11, 12, 13, 14, 15, 16, 17, 18, 19, 20, 21], [0, 1, 2, 3, 4, 5, 6, 7, 8, 9, 10, 11, 12, 13, 14, 15, 16, 17, 18, 19, 20, 21, 22]]), (25, 16, [[], [0], [], [], [2, 3], [2, 3, 4], [0, 1, 2, 3, 4, 5], [0, 1, 2, 3, 4, 5, 6], [0, 1, 2, 3, 4, 5, 6, 7], [0, 1, 2, 3, 4, 5, 6, 7, 8], [0, 1, 2, 3, 4, 5, 6, 7], [0, 1, 2, 3, 4, 5, 6, 7], [0, 1, 2, 3, 4, 5, 6, 7, 10, 11], [0, 1, 2, 3, 4, 5, 6, 7, 10, 11, 12], [0, 1, 2, 3, 4, 5, 6, 7, 8, 9, 10, 11, 12, 13], [0, 1, 2, 3, 4, 5, 6, 7, 8, 9, 10, 11, 12, 13, 14], [0, 1, 2, 3, 4, 5, 6, 7, 8, 9, 10, 11, 12, 13, 14, 15]]), (30, 5, [[], [], [], [1, 2], [1, 2, 3], [1, 2, 3, 4], [1, 2, 3, 4, 5], [], [], [7, 8], [7, 8, 9], [7, 8, 9, 10], [7, 8, 9, 10, 11], [7, 8, 9, 10, 11, 12], [7, 8, 9, 10, 11, 12, 13], [1, 2, 3, 4, 5, 6, 7, 8, 9, 10, 11, 12, 13, 14], [0, 1, 2, 3, 4, 5, 6, 7, 8, 9, 10, 11, 12, 13, 14, 15], [0, 1, 2, 3, 4, 5, 6, 7, 8, 9, 10, 11, 12, 13, 14, 15, 16]]), (31, 12, [[], [], [1], [1, 2], [1, 2, 3], [], [], [5, 6], [5, 6, 7], [1, 2, 3, 4, 5, 6, 7, 8], [1, 2, 3, 4, 5, 6, 7, 8, 9], [0, 1, 2, 3, 4, 5, 6, 7, 8, 9, 10], [0, 1, 2, 3, 4, 5, 6, 7, 8, 9, 10, 11]]), (32, 12, [[], [0], [], [], [3], [], [], [5, 6], [2, 3, 4, 5, 6, 7], [0, 1, 2, 3, 4, 5, 6, 7, 8], [0, 1, 2, 3, 4, 5, 6, 7, 8, 9], [0, 1, 2, 3, 4, 5, 6, 7, 8, 9, 10]]), (33, 6, [[], [], [0, 1], [0, 1, 2], [], [], [4, 5], [4, 5, 6], [0, 1, 2, 3, 4, 5, 6, 7], [0, 1, 2, 3, 4, 5, 6, 7, 8]]), (37, 4, [[], [0], [0, 1], [0, 1, 2], [0, 1, 2, 3], [0, 1, 2, 3, 4], [0, 1, 2, 3, 4, 5], [0, 1, 2, 3], [0, 1, 2, 3, 4, 5, 6, 7], [0, 1, 2, 3, 4, 5, 6, 7, 8]]), (38, 5, [[], [], [1], [0, 1, 2], [0, 1, 2, 3], [0, 1, 2, 3, 4], [0, 1, 2, 3, 4], [0, 1, 2, 3, 4, 5, 6], [0, 1, 2, 3, 4, 5, 6, 7], [0, 1, 2, 3, 4], [0, 1, 2, 3, 4], [0, 1, 2, 3, 4, 9, 10], [0, 1, 2, 3, 4, 9, 10, 11], [0, 1, 2, 3, 4, 5, 6, 7, 8, 9, 10, 11, 12], [0, 1, 2, 3, 4, 5, 6, 7, 8, 9, 10, 11, 12, 13], [0, 1, 2, 3, 4, 5, 6, 7, 8, 9, 10, 11, 12, 13, 14]]), (40, 4, [[], [], [0, 1], [], [], [3, 4], [3, 4, 5], [3, 4, 5, 6], [0, 1, 2, 3, 4, 5, 6, 7], [0, 1, 2, 3, 4, 5, 6, 7, 8]]), (44, 3, [[], [0], [0, 1], [0, 1, 2], [0, 1, 2, 3], [], [5], [5, 6], [5, 6, 7], [0, 1, 2, 3, 4, 5, 6, 7, 8], [0, 1, 2, 3, 4, 5, 6, 7, 8, 9]]), (44, 9, [[], [0], [0, 1], [0, 1, 2], [], [4], [4, 5], [4, 5, 6], [], [0, 1, 2, 3, 4, 5, 6, 7, 8], [0, 1, 2, 3, 4, 5, 6, 7, 8, 9], [0, 1, 2, 3, 4, 5, 6, 7, 8, 9, 10]]), (45, 3, [[], [0], [0, 1], [0, 1, 2], [0, 1, 2, 3], [], [5], [5, 6], [5, 6, 7], [0, 1, 2, 3, 4, 5, 6, 7, 8], [0, 1, 2, 3, 4, 5, 6, 7, 8, 9]]), (45, 8, [[], [0], [0, 1], [0, 1, 2], [], [4], [4, 5], [4, 5, 6], [0, 1, 2, 3, 4, 5, 6, 7], [], [0, 1, 2, 3, 4, 5, 6, 7, 8, 9]]), (45, 9, [[], [0], [], [], [2, 3], [0, 1, 2, 3, 4], [0, 1, 2, 3, 4, 5], [0, 1, 2, 3, 4, 5, 6]]), (48, 7, [[], [], [], [1, 2], [0], [0, 1, 2, 3, 4]]), (49, 4, [[], [], [1], [1, 2], [0], [0, 1, 2, 3, 4]]), (53, 3, [[], [0], [0, 1], [0, 1, 2], [0, 1, 2, 3], [0, 1, 2, 3, 4], [], [6], [6, 7], [6, 7, 8], [6, 7, 8, 9], [0, 1, 2, 3, 4, 5, 6, 7, 8, 9, 10], [], [], [13], [13, 14], [12, 13, 14, 15], [0, 1, 2, 3, 4, 5, 6, 7, 8, 9, 10, 11, 12, 13, 14, 15, 16], [0, 1, 2, 3, 4, 5, 6, 7, 8, 9, 10, 11, 12, 13, 14, 15, 16, 17], [0, 1, 2, 3, 4, 5, 6, 7, 8, 9, 10, 11, 12, 13, 14, 15, 16, 17, 18]]), (60, 6, [[], [], [0, 1], [0, 1, 2], [0, 1, 2, 3], [0, 1, 2, 3, 4], [0, 1, 2, 3, 4], [0, 1, 2, 3, 4, 5, 6], [0, 1, 2, 3, 4], [0, 1, 2, 3, 4, 8], [0, 1, 2, 3, 4, 5, 6, 7, 8, 9], [0, 1, 2, 3, 4, 5, 6, 7, 8, 9, 10], [0, 1, 2, 3, 4, 5, 6, 7, 8, 9, 10, 11]]), (60, 14, [[], [0], [0, 1], [0, 1, 2], [], [4], [4, 5], [4, 5, 6], [], [8], [8, 9], [8, 9, 10], [], [12], [12, 13], [12, 13, 14], [0, 1, 2, 3, 4, 5, 6, 7, 8, 9, 10, 11, 12, 13, 14, 15], [], [0, 1, 2, 3, 4, 5, 6, 7, 8, 9, 10, 11, 12, 13, 14, 15, 16, 17]]), (61, 4, [[], [], [1], [], [3], [0, 1, 2, 3, 4]]), (61, 10, [[], [], [1], [], [3], [0, 1, 2, 3, 4]]), (62, 5, [[], [], [0, 1], [0, 1, 2], [0, 1, 2, 3], [0, 1, 2, 3, 4], [0, 1, 2, 3], [0, 1, 2, 3, 6], [0, 1, 2, 3], [0, 1, 2, 3, 6, 7, 8], [0, 1, 2, 3, 4, 5, 6, 7, 8, 9], [0, 1, 2, 3, 4, 5, 6, 7, 8, 9, 10], [0, 1, 2, 3, 4, 5, 6, 7, 8, 9, 10, 11]]), (64, 5, [[], [], [0, 1], [], [3], [0, 1, 2, 3, 4], [0, 1, 2, 3, 4, 5], [0, 1, 2, 3, 4, 5, 6], [0, 1, 2, 3, 4, 5, 6], [0, 1, 2, 3, 4, 5, 6, 7], [0, 1, 2, 3, 4, 5, 6, 7, 8, 9]]), (64, 7, [[], [], [1], [], [3], [3, 4], [1, 2, 3, 4, 5], [1, 2, 3, 4, 5, 6], [0, 1, 2, 3, 4, 5, 6, 7], [0, 1, 2, 3, 4, 5, 6, 7, 8]]), (65, 7, [[], [], [1], [0, 1, 2], [0, 1, 2, 3], [0, 1, 2, 3, 4], [0, 1, 2, 3, 4, 5], [0, 1, 2, 3, 4, 5], [0, 1, 2, 3, 4, 5, 6, 7], [0, 1, 2, 3, 4, 5], [0, 1, 2, 3, 4, 5, 9], [0, 1, 2, 3, 4, 5, 6, 7, 8, 9, 10], [0, 1, 2, 3, 4, 5, 6, 7, 8, 9, 10, 11], [0, 1, 2, 3, 4, 5, 6, 7, 8, 9, 10, 11, 12]]), (73, 11, [[], [], [0, 1], [0, 1, 2], [], [], [4, 5], [4, 5, 6], [0, 1, 2, 3, 4, 5, 6, 7]]), (89, 6, [[], [0], [0, 1], [0, 1, 2], [], [4], [0, 1, 2, 3, 4, 5]]), (89, 11, [[], [], [], [], [3], [3, 4], [3, 4, 5], [3, 4, 5, 6], [], [8], [8, 9], [8, 9, 10], [8, 9, 10, 11], [0, 3, 4, 5, 6, 8, 9, 10, 11], [0, 3, 4, 5, 6, 8, 9, 10, 11, 13], [0, 3, 4, 5, 6, 8, 9, 10, 11, 13, 14], [0, 1, 3, 4, 5, 6, 7, 8, 9, 10, 11, 13, 14, 15], [0, 1, 3, 4, 5, 6, 7, 8, 9, 10, 11, 13, 14, 15, 16], [0, 1, 3, 4, 5, 6, 7, 8, 9, 10, 11, 13, 14, 15, 16, 17], [0, 1, 2, 3, 4, 5, 6, 7, 8, 9, 10, 11, 12, 13, 14, 15, 16, 17, 18], [0, 1, 2, 3, 4, 5, 6, 7, 8, 9, 10, 11, 12, 13, 14, 15, 16, 17, 18, 19], [0, 1, 2, 3, 4, 5, 6, 7, 8, 9, 10, 11, 12, 13, 14, 15, 16, 17, 18, 19, 20]]), (89, 1, [[], [], [1], [1, 2], [], [], [5], [5, 6], [], [8], [8, 9], [8, 9, 10], [0], [0, 12], [0, 1, 2, 3, 8, 9, 10, 11, 12, 13], [0, 1, 2, 3, 8, 9, 10, 11, 12, 13, 14], [4], [4, 16], [0, 1, 2, 3, 4, 5, 6, 7, 8, 9, 10, 11, 12, 13, 14, 15, 16, 17], [0, 1, 2, 3, 4, 5, 6, 7, 8, 9, 10, 11, 12, 13, 14, 15, 16, 17, 18]]), (106, 3, [[], [], [], [], [], [], [4, 5], [4, 5, 6], [], [], [8, 9], [8, 9, 10], [0, 1, 4, 5, 6, 7, 8, 9, 10, 11], [0, 1, 4, 5, 6, 7, 8, 9, 10, 11, 12], [0, 1, 2, 3, 4, 5, 6, 7, 8, 9, 10, 11, 12, 13], [0, 1, 2, 3, 4, 5, 6, 7, 8, 9, 10, 11, 12, 13, 14]])]
def lk2 {α : Type} (d : α) : List (Nat × Nat × α) → Nat → Nat → α
  | [], _, _ => d
  | (f, r, a) :: l, f', r' => match f.beq f' && r.beq r' with
    | true => a
    | false => lk2 d l f' r'
def lk1 {α : Type} : List (Nat × α) → Nat → Option α
  | [], _ => none
  | (f, a) :: l, f' => match f.beq f' with
    | true => some a
    | false => lk1 l f'
def eqT : List (Nat × List Kc) := [(32, [.int .i64, .int .i64]), (70, [.int .u8, .int .u8, .int .u8, .int .u8]), (73, [.int .u8, .int .u8, .int .u8, .int .u8, .int .u8, .int .u8, .int .u8, .int .u8]), (75, [.bool, .int .u8, .int .u8, .int .u8, .int .u8, .bool, .int .i64, .bool, .bool, .bool, .bool, .bool, .int .u8, .int .u8, .int .u8, .int .u8, .int .u8, .int .u8, .int .u8, .int .u8, .int .u8, .int .u8, .int .u8, .int .u8, .int .u8, .int .u8, .int .u8, .int .u8, .bool, .int .u8, .int .u8, .int .u8, .int .u8, .int .u8, .int .u8, .int .u8, .int .u8])]
def intrT : List (Nat × (List SV → (Nat → Option Ob) → Nat → Option Eff)) := [(80, cloneW 1 1), (103, cloneW 1 1)]
def env : Env where
  ann := lk2 [] annT
  reg := lk2 [] regT
  eqT := lk1 eqT
  byRef g := [84, 106].contains g
  intr := lk1 intrT
attribute [go_sem] Try.underlying0 Try.underlying1 Try.underlying2 Try.underlying3 Try.underlying4 Try.underlying5 Try.underlying6 Try.underlying7 Try.underlying8 Try.underlying9 Try.underlying10 Try.underlying11 Try.underlying12 Try.underlying13 Try.underlying14 Try.underlying15 Try.underlying16 Try.underlying17 Try.underlying18 Try.underlying19 Try.underlying20 Try.underlying21 Try.underlying22 Try.underlying23 Try.underlying24 Try.underlying25 Try.underlying26 Try.underlying27 Try.underlying28 Try.underlying29 Try.underlying30 Try.underlying31 Try.underlying32 Try.underlying33 Try.underlying34 Try.underlying35 Try.underlying36 Try.underlying37 Try.underlying38 Try.underlying39 Try.underlying40 Try.underlying41 Try.underlying42 Try.underlying43 Try.underlying44 Try.underlying45 Try.underlying46 Try.underlying47 Try.underlying48 Try.underlying49 Try.underlying50 Try.underlying51 Try.underlying52 Try.underlying53 Try.underlying54 Try.underlying55 Try.underlying56 Try.underlying57 Try.underlying58 Try.underlying59 Try.underlying60 Try.underlying61 Try.underlying62 Try.underlying63 Try.underlying64 Try.underlying65 Try.underlying66 Try.underlying67 Try.underlying68 Try.underlying69 Try.underlying70 Try.underlying71 Try.underlying72 Try.underlying73 Try.underlying74 Try.underlying75 Try.underlying76 Try.underlying77 Try.underlying78 Try.underlying79 Try.underlying80 Try.underlying81 Try.underlying82 Try.underlying83 Try.underlying84 Try.underlying85 Try.underlying86 Try.underlying87 Try.underlying88 Try.underlying89 Try.underlying90 Try.underlying91 Try.underlying92 Try.underlying93 Try.underlying94 Try.underlying95 Try.underlying96 Try.underlying97 Try.underlying98 Try.underlying99 Try.underlying100 Try.underlying101 Try.underlying102 Try.underlying103 Try.underlying104 Try.underlying105 Try.underlying106 Try.underlying107 Try.underlying108 Try.underlying109 Try.underlying110 Try.underlying111 Try.underlying112 Try.underlying113 Try.underlying114 Try.underlying115 Try.underlying116 Try.underlying117 Try.underlying118 Try.underlying119 Try.underlying120 Try.underlying121 Try.underlying122 Try.underlying123 Try.underlying124 Try.underlying125 Try.underlying126 Try.underlying127 Try.underlying128 Try.underlying129 Try.underlying130 Try.underlying131 Try.underlying132 Try.underlying133 Try.underlying134 Try.underlying135 Try.underlying136 Try.underlying137 Try.underlying138
theorem cells0 : Try.prog.cellsOf 0 = 1 := by kernel_rfl
theorem bytes0 : Try.prog.bytesOf 0 = 0 := by kernel_rfl
theorem agg0 : isAggT Try.prog 0 = false := by kernel_rfl
theorem ok0 : okT Try.prog 0 = true := by kernel_rfl
theorem zero1 : zeroE Try.prog 1 = some (.opq .nilFunc) := by kernel_rfl
theorem zeros1 : zerosOf Try.prog 1 = some [.opq .nilFunc] := by kernel_rfl
theorem cells1 : Try.prog.cellsOf 1 = 1 := by kernel_rfl
theorem bytes1 : Try.prog.bytesOf 1 = 8 := by kernel_rfl
theorem agg1 : isAggT Try.prog 1 = false := by kernel_rfl
theorem ok1 : okT Try.prog 1 = true := by kernel_rfl
theorem zero2 : zeroE Try.prog 2 = some (.int .i64 0) := by kernel_rfl
theorem zeros2 : zerosOf Try.prog 2 = some [.int .i64 0] := by kernel_rfl
theorem cells2 : Try.prog.cellsOf 2 = 1 := by kernel_rfl
theorem bytes2 : Try.prog.bytesOf 2 = 8 := by kernel_rfl
theorem agg2 : isAggT Try.prog 2 = false := by kernel_rfl
theorem ok2 : okT Try.prog 2 = true := by kernel_rfl
theorem zero3 : zeroE Try.prog 3 = some (.int .i64 0) := by kernel_rfl
theorem zeros3 : zerosOf Try.prog 3 = some [.int .i64 0] := by kernel_rfl
theorem cells3 : Try.prog.cellsOf 3 = 1 := by kernel_rfl
theorem bytes3 : Try.prog.bytesOf 3 = 8 := by kernel_rfl
theorem agg3 : isAggT Try.prog 3 = false := by kernel_rfl
theorem ok3 : okT Try.prog 3 = true := by kernel_rfl
theorem zero4 : zeroE Try.prog 4 = some (.bool false) := by kernel_rfl
theorem zeros4 : zerosOf Try.prog 4 = some [.bool false] := by kernel_rfl
theorem cells4 : Try.prog.cellsOf 4 = 1 := by kernel_rfl
theorem bytes4 : Try.prog.bytesOf 4 = 1 := by kernel_rfl
theorem agg4 : isAggT Try.prog 4 = false := by kernel_rfl
theorem ok4 : okT Try.prog 4 = true := by kernel_rfl
theorem zero5 : zeroE Try.prog 5 = some (.int .u8 0) := by kernel_rfl
theorem zeros5 : zerosOf Try.prog 5 = some [.int .u8 0] := by kernel_rfl
theorem cells5 : Try.prog.cellsOf 5 = 1 := by kernel_rfl
theorem bytes5 : Try.prog.bytesOf 5 = 1 := by kernel_rfl
theorem agg5 : isAggT Try.prog 5 = false := by kernel_rfl
theorem ok5 : okT Try.prog 5 = true := by kernel_rfl
theorem zero6 : zeroE Try.prog 6 = some (.int .u8 0) := by kernel_rfl
theorem zeros6 : zerosOf Try.prog 6 = some [.int .u8 0] := by kernel_rfl
theorem cells6 : Try.prog.cellsOf 6 = 1 := by kernel_rfl
theorem bytes6 : Try.prog.bytesOf 6 = 1 := by kernel_rfl
theorem agg6 : isAggT Try.prog 6 = false := by kernel_rfl
theorem ok6 : okT Try.prog 6 = true := by kernel_rfl
theorem zero7 : zeroE Try.prog 7 = some (.agg [.int .i64 0, .int .i64 0, .bool false, .int .u8 0]) := by kernel_rfl
theorem zeros7 : zerosOf Try.prog 7 = some [.int .i64 0, .int .i64 0, .bool false, .int .u8 0] := by kernel_rfl
theorem cells7 : Try.prog.cellsOf 7 = 4 := by kernel_rfl
theorem bytes7 : Try.prog.bytesOf 7 = 24 := by kernel_rfl
theorem agg7 : isAggT Try.prog 7 = true := by kernel_rfl
theorem ok7 : okT Try.prog 7 = true := by kernel_rfl
theorem zero8 : zeroE Try.prog 8 = some (.agg [.int .i64 0, .int .i64 0, .bool false, .int .u8 0]) := by kernel_rfl
theorem zeros8 : zerosOf Try.prog 8 = some [.int .i64 0, .int .i64 0, .bool false, .int .u8 0] := by kernel_rfl
theorem cells8 : Try.prog.cellsOf 8 = 4 := by kernel_rfl
theorem bytes8 : Try.prog.bytesOf 8 = 24 := by kernel_rfl
theorem agg8 : isAggT Try.prog 8 = true := by kernel_rfl
theorem ok8 : okT Try.prog 8 = true := by kernel_rfl
theorem zero9 : zeroE Try.prog 9 = some (.str []) := by kernel_rfl
theorem zeros9 : zerosOf Try.prog 9 = some [.str []] := by kernel_rfl
theorem cells9 : Try.prog.cellsOf 9 = 1 := by kernel_rfl
theorem bytes9 : Try.prog.bytesOf 9 = 16 := by kernel_rfl
theorem agg9 : isAggT Try.prog 9 = false := by kernel_rfl
theorem ok9 : okT Try.prog 9 = true := by kernel_rfl
theorem zero10 : zeroE Try.prog 10 = some (.str []) := by kernel_rfl
theorem zeros10 : zerosOf Try.prog 10 = some [.str []] := by kernel_rfl
theorem cells10 : Try.prog.cellsOf 10 = 1 := by kernel_rfl
theorem bytes10 : Try.prog.bytesOf 10 = 16 := by kernel_rfl
theorem agg10 : isAggT Try.prog 10 = false := by kernel_rfl
theorem ok10 : okT Try.prog 10 = true := by kernel_rfl
theorem zero11 : zeroE Try.prog 11 = some (.str []) := by kernel_rfl
theorem zeros11 : zerosOf Try.prog 11 = some [.str []] := by kernel_rfl
theorem cells11 : Try.prog.cellsOf 11 = 1 := by kernel_rfl
theorem bytes11 : Try.prog.bytesOf 11 = 16 := by kernel_rfl
theorem agg11 : isAggT Try.prog 11 = false := by kernel_rfl
theorem ok11 : okT Try.prog 11 = true := by kernel_rfl
theorem zero12 : zeroE Try.prog 12 = some (.int .u64 0) := by kernel_rfl
theorem zeros12 : zerosOf Try.prog 12 = some [.int .u64 0] := by kernel_rfl
theorem cells12 : Try.prog.cellsOf 12 = 1 := by kernel_rfl
theorem bytes12 : Try.prog.bytesOf 12 = 8 := by kernel_rfl
theorem agg12 : isAggT Try.prog 12 = false := by kernel_rfl
theorem ok12 : okT Try.prog 12 = true := by kernel_rfl
theorem zero13 : zeroE Try.prog 13 = some (.agg [.str [], .int .u64 0]) := by kernel_rfl
theorem zeros13 : zerosOf Try.prog 13 = some [.str [], .int .u64 0] := by kernel_rfl
theorem cells13 : Try.prog.cellsOf 13 = 2 := by kernel_rfl
theorem bytes13 : Try.prog.bytesOf 13 = 24 := by kernel_rfl
theorem agg13 : isAggT Try.prog 13 = true := by kernel_rfl
theorem ok13 : okT Try.prog 13 = true := by kernel_rfl
theorem zero14 : zeroE Try.prog 14 = some (.agg [.str [], .int .u64 0]) := by kernel_rfl
theorem zeros14 : zerosOf Try.prog 14 = some [.str [], .int .u64 0] := by kernel_rfl
theorem cells14 : Try.prog.cellsOf 14 = 2 := by kernel_rfl
theorem bytes14 : Try.prog.bytesOf 14 = 24 := by kernel_rfl
theorem agg14 : isAggT Try.prog 14 = true := by kernel_rfl
theorem ok14 : okT Try.prog 14 = true := by kernel_rfl
theorem zero15 : zeroE Try.prog 15 = some (.opq (.pointer none)) := by kernel_rfl
theorem zeros15 : zerosOf Try.prog 15 = some [.opq (.pointer none)] := by kernel_rfl
theorem cells15 : Try.prog.cellsOf 15 = 1 := by kernel_rfl
theorem bytes15 : Try.prog.bytesOf 15 = 8 := by kernel_rfl
theorem agg15 : isAggT Try.prog 15 = false := by kernel_rfl
theorem ok15 : okT Try.prog 15 = true := by kernel_rfl
theorem zero16 : zeroE Try.prog 16 = some (.opq (.pointer none)) := by kernel_rfl
theorem zeros16 : zerosOf Try.prog 16 = some [.opq (.pointer none)] := by kernel_rfl
theorem cells16 : Try.prog.cellsOf 16 = 1 := by kernel_rfl
theorem bytes16 : Try.prog.bytesOf 16 = 8 := by kernel_rfl
theorem agg16 : isAggT Try.prog 16 = false := by kernel_rfl
theorem ok16 : okT Try.prog 16 = true := by kernel_rfl
theorem zero17 : zeroE Try.prog 17 = some (.opq (.pointer none)) := by kernel_rfl
theorem zeros17 : zerosOf Try.prog 17 = some [.opq (.pointer none)] := by kernel_rfl
theorem cells17 : Try.prog.cellsOf 17 = 1 := by kernel_rfl
theorem bytes17 : Try.prog.bytesOf 17 = 8 := by kernel_rfl
theorem agg17 : isAggT Try.prog 17 = false := by kernel_rfl
theorem ok17 : okT Try.prog 17 = true := by kernel_rfl
theorem zero18 : zeroE Try.prog 18 = some (.agg [.opq (.pointer none)]) := by kernel_rfl
theorem zeros18 : zerosOf Try.prog 18 = some [.opq (.pointer none)] := by kernel_rfl
theorem cells18 : Try.prog.cellsOf 18 = 1 := by kernel_rfl
theorem bytes18 : Try.prog.bytesOf 18 = 8 := by kernel_rfl
theorem agg18 : isAggT Try.prog 18 = true := by kernel_rfl
theorem ok18 : okT Try.prog 18 = true := by kernel_rfl
theorem zero19 : zeroE Try.prog 19 = some (.agg [.opq (.pointer none)]) := by kernel_rfl
theorem zeros19 : zerosOf Try.prog 19 = some [.opq (.pointer none)] := by kernel_rfl
theorem cells19 : Try.prog.cellsOf 19 = 1 := by kernel_rfl
theorem bytes19 : Try.prog.bytesOf 19 = 8 := by kernel_rfl
theorem agg19 : isAggT Try.prog 19 = true := by kernel_rfl
theorem ok19 : okT Try.prog 19 = true := by kernel_rfl
theorem zero20 : zeroE Try.prog 20 = some (.opq .nilIface) := by kernel_rfl
theorem zeros20 : zerosOf Try.prog 20 = some [.opq .nilIface] := by kernel_rfl
theorem cells20 : Try.prog.cellsOf 20 = 1 := by kernel_rfl
theorem bytes20 : Try.prog.bytesOf 20 = 16 := by kernel_rfl
theorem agg20 : isAggT Try.prog 20 = false := by kernel_rfl
theorem ok20 : okT Try.prog 20 = true := by kernel_rfl
theorem zero21 : zeroE Try.prog 21 = some (.int .i32 0) := by kernel_rfl
theorem zeros21 : zerosOf Try.prog 21 = some [.int .i32 0] := by kernel_rfl
theorem cells21 : Try.prog.cellsOf 21 = 1 := by kernel_rfl
theorem bytes21 : Try.prog.bytesOf 21 = 4 := by kernel_rfl
theorem agg21 : isAggT Try.prog 21 = false := by kernel_rfl
theorem ok21 : okT Try.prog 21 = true := by kernel_rfl
theorem zero22 : zeroE Try.prog 22 = some (.sl []) := by kernel_rfl
theorem zeros22 : zerosOf Try.prog 22 = some [.sl []] := by kernel_rfl
theorem cells22 : Try.prog.cellsOf 22 = 1 := by kernel_rfl
theorem bytes22 : Try.prog.bytesOf 22 = 24 := by kernel_rfl
theorem agg22 : isAggT Try.prog 22 = false := by kernel_rfl
theorem ok22 : okT Try.prog 22 = true := by kernel_rfl
theorem zero23 : zeroE Try.prog 23 = some (.opq .nilFunc) := by kernel_rfl
theorem zeros23 : zerosOf Try.prog 23 = some [.opq .nilFunc] := by kernel_rfl
theorem cells23 : Try.prog.cellsOf 23 = 1 := by kernel_rfl
theorem bytes23 : Try.prog.bytesOf 23 = 8 := by kernel_rfl
theorem agg23 : isAggT Try.prog 23 = false := by kernel_rfl
theorem ok23 : okT Try.prog 23 = true := by kernel_rfl
theorem zero24 : zeroE Try.prog 24 = some (.opq .nilFunc) := by kernel_rfl
theorem zeros24 : zerosOf Try.prog 24 = some [.opq .nilFunc] := by kernel_rfl
theorem cells24 : Try.prog.cellsOf 24 = 1 := by kernel_rfl
theorem bytes24 : Try.prog.bytesOf 24 = 8 := by kernel_rfl
theorem agg24 : isAggT Try.prog 24 = false := by kernel_rfl
theorem ok24 : okT Try.prog 24 = true := by kernel_rfl
theorem zero25 : zeroE Try.prog 25 = some (.sl []) := by kernel_rfl
theorem zeros25 : zerosOf Try.prog 25 = some [.sl []] := by kernel_rfl
theorem cells25 : Try.prog.cellsOf 25 = 1 := by kernel_rfl
theorem bytes25 : Try.prog.bytesOf 25 = 24 := by kernel_rfl
theorem agg25 : isAggT Try.prog 25 = false := by kernel_rfl
theorem ok25 : okT Try.prog 25 = true := by kernel_rfl
theorem zero26 : zeroE Try.prog 26 = some (.int .i64 0) := by kernel_rfl
theorem zeros26 : zerosOf Try.prog 26 = some [.int .i64 0] := by kernel_rfl
theorem cells26 : Try.prog.cellsOf 26 = 1 := by kernel_rfl
theorem bytes26 : Try.prog.bytesOf 26 = 8 := by kernel_rfl
theorem agg26 : isAggT Try.prog 26 = false := by kernel_rfl
theorem ok26 : okT Try.prog 26 = true := by kernel_rfl
theorem cells27 : Try.prog.cellsOf 27 = 1 := by kernel_rfl
theorem bytes27 : Try.prog.bytesOf 27 = 0 := by kernel_rfl
theorem agg27 : isAggT Try.prog 27 = false := by kernel_rfl
theorem ok27 : okT Try.prog 27 = true := by kernel_rfl
theorem zero28 : zeroE Try.prog 28 = some (.opq .nilFunc) := by kernel_rfl
theorem zeros28 : zerosOf Try.prog 28 = some [.opq .nilFunc] := by kernel_rfl
theorem cells28 : Try.prog.cellsOf 28 = 1 := by kernel_rfl
theorem bytes28 : Try.prog.bytesOf 28 = 8 := by kernel_rfl
theorem agg28 : isAggT Try.prog 28 = false := by kernel_rfl
theorem ok28 : okT Try.prog 28 = true := by kernel_rfl
theorem zero29 : zeroE Try.prog 29 = some (.opq .nilFunc) := by kernel_rfl
theorem zeros29 : zerosOf Try.prog 29 = some [.opq .nilFunc] := by kernel_rfl
theorem cells29 : Try.prog.cellsOf 29 = 1 := by kernel_rfl
theorem bytes29 : Try.prog.bytesOf 29 = 8 := by kernel_rfl
theorem agg29 : isAggT Try.prog 29 = false := by kernel_rfl
theorem ok29 : okT Try.prog 29 = true := by kernel_rfl
theorem zero30 : zeroE Try.prog 30 = some (.opq .nilFunc) := by kernel_rfl
theorem zeros30 : zerosOf Try.prog 30 = some [.opq .nilFunc] := by kernel_rfl
theorem cells30 : Try.prog.cellsOf 30 = 1 := by kernel_rfl
theorem bytes30 : Try.prog.bytesOf 30 = 8 := by kernel_rfl
theorem agg30 : isAggT Try.prog 30 = false := by kernel_rfl
theorem ok30 : okT Try.prog 30 = true := by kernel_rfl
theorem zero31 : zeroE Try.prog 31 = some (.agg [.int .i64 0, .int .i64 0]) := by kernel_rfl
theorem zeros31 : zerosOf Try.prog 31 = some [.int .i64 0, .int .i64 0] := by kernel_rfl
theorem cells31 : Try.prog.cellsOf 31 = 2 := by kernel_rfl
theorem bytes31 : Try.prog.bytesOf 31 = 16 := by kernel_rfl
theorem agg31 : isAggT Try.prog 31 = true := by kernel_rfl
theorem ok31 : okT Try.prog 31 = true := by kernel_rfl
theorem zero32 : zeroE Try.prog 32 = some (.agg [.int .i64 0, .int .i64 0]) := by kernel_rfl
theorem zeros32 : zerosOf Try.prog 32 = some [.int .i64 0, .int .i64 0] := by kernel_rfl
theorem cells32 : Try.prog.cellsOf 32 = 2 := by kernel_rfl
theorem bytes32 : Try.prog.bytesOf 32 = 16 := by kernel_rfl
theorem agg32 : isAggT Try.prog 32 = true := by kernel_rfl
theorem ok32 : okT Try.prog 32 = true := by kernel_rfl
theorem cells33 : Try.prog.cellsOf 33 = 1 := by kernel_rfl
theorem bytes33 : Try.prog.bytesOf 33 = 0 := by kernel_rfl
theorem agg33 : isAggT Try.prog 33 = false := by kernel_rfl
theorem ok33 : okT Try.prog 33 = true := by kernel_rfl
theorem zero34 : zeroE Try.prog 34 = some (.opq .nilFunc) := by kernel_rfl
theorem zeros34 : zerosOf Try.prog 34 = some [.opq .nilFunc] := by kernel_rfl
theorem cells34 : Try.prog.cellsOf 34 = 1 := by kernel_rfl
theorem bytes34 : Try.prog.bytesOf 34 = 8 := by kernel_rfl
theorem agg34 : isAggT Try.prog 34 = false := by kernel_rfl
theorem ok34 : okT Try.prog 34 = true := by kernel_rfl
theorem zero35 : zeroE Try.prog 35 = some (.opq .nilFunc) := by kernel_rfl
theorem zeros35 : zerosOf Try.prog 35 = some [.opq .nilFunc] := by kernel_rfl
theorem cells35 : Try.prog.cellsOf 35 = 1 := by kernel_rfl
theorem bytes35 : Try.prog.bytesOf 35 = 8 := by kernel_rfl
theorem agg35 : isAggT Try.prog 35 = false := by kernel_rfl
theorem ok35 : okT Try.prog 35 = true := by kernel_rfl
theorem zero36 : zeroE Try.prog 36 = some (.opq .nilFunc) := by kernel_rfl
theorem zeros36 : zerosOf Try.prog 36 = some [.opq .nilFunc] := by kernel_rfl
theorem cells36 : Try.prog.cellsOf 36 = 1 := by kernel_rfl
theorem bytes36 : Try.prog.bytesOf 36 = 8 := by kernel_rfl
theorem agg36 : isAggT Try.prog 36 = false := by kernel_rfl
theorem ok36 : okT Try.prog 36 = true := by kernel_rfl
theorem zero37 : zeroE Try.prog 37 = some (.opq .nilFunc) := by kernel_rfl
theorem zeros37 : zerosOf Try.prog 37 = some [.opq .nilFunc] := by kernel_rfl
theorem cells37 : Try.prog.cellsOf 37 = 1 := by kernel_rfl
theorem bytes37 : Try.prog.bytesOf 37 = 8 := by kernel_rfl
theorem agg37 : isAggT Try.prog 37 = false := by kernel_rfl
theorem ok37 : okT Try.prog 37 = true := by kernel_rfl
theorem cells38 : Try.prog.cellsOf 38 = 1 := by kernel_rfl
theorem bytes38 : Try.prog.bytesOf 38 = 0 := by kernel_rfl
theorem agg38 : isAggT Try.prog 38 = false := by kernel_rfl
theorem ok38 : okT Try.prog 38 = true := by kernel_rfl
theorem zero39 : zeroE Try.prog 39 = some (.opq .nilFunc) := by kernel_rfl
theorem zeros39 : zerosOf Try.prog 39 = some [.opq .nilFunc] := by kernel_rfl
theorem cells39 : Try.prog.cellsOf 39 = 1 := by kernel_rfl
theorem bytes39 : Try.prog.bytesOf 39 = 8 := by kernel_rfl
theorem agg39 : isAggT Try.prog 39 = false := by kernel_rfl
theorem ok39 : okT Try.prog 39 = true := by kernel_rfl
theorem zero40 : zeroE Try.prog 40 = some (.opq .nilFunc) := by kernel_rfl
theorem zeros40 : zerosOf Try.prog 40 = some [.opq .nilFunc] := by kernel_rfl
theorem cells40 : Try.prog.cellsOf 40 = 1 := by kernel_rfl
theorem bytes40 : Try.prog.bytesOf 40 = 8 := by kernel_rfl
theorem agg40 : isAggT Try.prog 40 = false := by kernel_rfl
theorem ok40 : okT Try.prog 40 = true := by kernel_rfl
theorem zero41 : zeroE Try.prog 41 = some (.agg [.int .i64 0, .sl []]) := by kernel_rfl
theorem zeros41 : zerosOf Try.prog 41 = some [.int .i64 0, .sl []] := by kernel_rfl
theorem cells41 : Try.prog.cellsOf 41 = 2 := by kernel_rfl
theorem bytes41 : Try.prog.bytesOf 41 = 32 := by kernel_rfl
theorem agg41 : isAggT Try.prog 41 = true := by kernel_rfl
theorem ok41 : okT Try.prog 41 = true := by kernel_rfl
theorem zero42 : zeroE Try.prog 42 = some (.agg [.int .i64 0, .sl []]) := by kernel_rfl
theorem zeros42 : zerosOf Try.prog 42 = some [.int .i64 0, .sl []] := by kernel_rfl
theorem cells42 : Try.prog.cellsOf 42 = 2 := by kernel_rfl
theorem bytes42 : Try.prog.bytesOf 42 = 32 := by kernel_rfl
theorem agg42 : isAggT Try.prog 42 = true := by kernel_rfl
theorem ok42 : okT Try.prog 42 = true := by kernel_rfl
theorem zero43 : zeroE Try.prog 43 = some (.opq .nilFunc) := by kernel_rfl
theorem zeros43 : zerosOf Try.prog 43 = some [.opq .nilFunc] := by kernel_rfl
theorem cells43 : Try.prog.cellsOf 43 = 1 := by kernel_rfl
theorem bytes43 : Try.prog.bytesOf 43 = 8 := by kernel_rfl
theorem agg43 : isAggT Try.prog 43 = false := by kernel_rfl
theorem ok43 : okT Try.prog 43 = true := by kernel_rfl
theorem zero44 : zeroE Try.prog 44 = some (.int .u64 0) := by kernel_rfl
theorem zeros44 : zerosOf Try.prog 44 = some [.int .u64 0] := by kernel_rfl
theorem cells44 : Try.prog.cellsOf 44 = 1 := by kernel_rfl
theorem bytes44 : Try.prog.bytesOf 44 = 8 := by kernel_rfl
theorem agg44 : isAggT Try.prog 44 = false := by kernel_rfl
theorem ok44 : okT Try.prog 44 = true := by kernel_rfl
theorem zero45 : zeroE Try.prog 45 = some (.int .u64 0) := by kernel_rfl
theorem zeros45 : zerosOf Try.prog 45 = some [.int .u64 0] := by kernel_rfl
theorem cells45 : Try.prog.cellsOf 45 = 1 := by kernel_rfl
theorem bytes45 : Try.prog.bytesOf 45 = 8 := by kernel_rfl
theorem agg45 : isAggT Try.prog 45 = false := by kernel_rfl
theorem ok45 : okT Try.prog 45 = true := by kernel_rfl
theorem zero46 : zeroE Try.prog 46 = some (.opq .nilFunc) := by kernel_rfl
theorem zeros46 : zerosOf Try.prog 46 = some [.opq .nilFunc] := by kernel_rfl
theorem cells46 : Try.prog.cellsOf 46 = 1 := by kernel_rfl
theorem bytes46 : Try.prog.bytesOf 46 = 8 := by kernel_rfl
theorem agg46 : isAggT Try.prog 46 = false := by kernel_rfl
theorem ok46 : okT Try.prog 46 = true := by kernel_rfl
theorem zero47 : zeroE Try.prog 47 = some (.opq .nilFunc) := by kernel_rfl
theorem zeros47 : zerosOf Try.prog 47 = some [.opq .nilFunc] := by kernel_rfl
theorem cells47 : Try.prog.cellsOf 47 = 1 := by kernel_rfl
theorem bytes47 : Try.prog.bytesOf 47 = 8 := by kernel_rfl
theorem agg47 : isAggT Try.prog 47 = false := by kernel_rfl
theorem ok47 : okT Try.prog 47 = true := by kernel_rfl
theorem zero48 : zeroE Try.prog 48 = some (.agg [.int .i64 0, .int .i64 0, .sl []]) := by kernel_rfl
theorem zeros48 : zerosOf Try.prog 48 = some [.int .i64 0, .int .i64 0, .sl []] := by kernel_rfl
theorem cells48 : Try.prog.cellsOf 48 = 3 := by kernel_rfl
theorem bytes48 : Try.prog.bytesOf 48 = 40 := by kernel_rfl
theorem agg48 : isAggT Try.prog 48 = true := by kernel_rfl
theorem ok48 : okT Try.prog 48 = true := by kernel_rfl
theorem zero49 : zeroE Try.prog 49 = some (.agg [.int .i64 0, .int .i64 0, .sl []]) := by kernel_rfl
theorem zeros49 : zerosOf Try.prog 49 = some [.int .i64 0, .int .i64 0, .sl []] := by kernel_rfl
theorem cells49 : Try.prog.cellsOf 49 = 3 := by kernel_rfl
theorem bytes49 : Try.prog.bytesOf 49 = 40 := by kernel_rfl
theorem agg49 : isAggT Try.prog 49 = true := by kernel_rfl
theorem ok49 : okT Try.prog 49 = true := by kernel_rfl
theorem zero50 : zeroE Try.prog 50 = some (.opq .nilFunc) := by kernel_rfl
theorem zeros50 : zerosOf Try.prog 50 = some [.opq .nilFunc] := by kernel_rfl
theorem cells50 : Try.prog.cellsOf 50 = 1 := by kernel_rfl
theorem bytes50 : Try.prog.bytesOf 50 = 8 := by kernel_rfl
theorem agg50 : isAggT Try.prog 50 = false := by kernel_rfl
theorem ok50 : okT Try.prog 50 = true := by kernel_rfl
theorem cells51 : Try.prog.cellsOf 51 = 1 := by kernel_rfl
theorem bytes51 : Try.prog.bytesOf 51 = 0 := by kernel_rfl
theorem agg51 : isAggT Try.prog 51 = false := by kernel_rfl
theorem ok51 : okT Try.prog 51 = true := by kernel_rfl
theorem zero52 : zeroE Try.prog 52 = some (.opq .nilFunc) := by kernel_rfl
theorem zeros52 : zerosOf Try.prog 52 = some [.opq .nilFunc] := by kernel_rfl
theorem cells52 : Try.prog.cellsOf 52 = 1 := by kernel_rfl
theorem bytes52 : Try.prog.bytesOf 52 = 8 := by kernel_rfl
theorem agg52 : isAggT Try.prog 52 = false := by kernel_rfl
theorem ok52 : okT Try.prog 52 = true := by kernel_rfl
theorem zero53 : zeroE Try.prog 53 = some (.opq .nilFunc) := by kernel_rfl
theorem zeros53 : zerosOf Try.prog 53 = some [.opq .nilFunc] := by kernel_rfl
theorem cells53 : Try.prog.cellsOf 53 = 1 := by kernel_rfl
theorem bytes53 : Try.prog.bytesOf 53 = 8 := by kernel_rfl
theorem agg53 : isAggT Try.prog 53 = false := by kernel_rfl
theorem ok53 : okT Try.prog 53 = true := by kernel_rfl
theorem cells54 : Try.prog.cellsOf 54 = 1 := by kernel_rfl
theorem bytes54 : Try.prog.bytesOf 54 = 0 := by kernel_rfl
theorem agg54 : isAggT Try.prog 54 = false := by kernel_rfl
theorem ok54 : okT Try.prog 54 = true := by kernel_rfl
theorem zero55 : zeroE Try.prog 55 = some (.opq .nilFunc) := by kernel_rfl
theorem zeros55 : zerosOf Try.prog 55 = some [.opq .nilFunc] := by kernel_rfl
theorem cells55 : Try.prog.cellsOf 55 = 1 := by kernel_rfl
theorem bytes55 : Try.prog.bytesOf 55 = 8 := by kernel_rfl
theorem agg55 : isAggT Try.prog 55 = false := by kernel_rfl
theorem ok55 : okT Try.prog 55 = true := by kernel_rfl
theorem cells56 : Try.prog.cellsOf 56 = 1 := by kernel_rfl
theorem bytes56 : Try.prog.bytesOf 56 = 0 := by kernel_rfl
theorem agg56 : isAggT Try.prog 56 = false := by kernel_rfl
theorem ok56 : okT Try.prog 56 = true := by kernel_rfl
theorem zero57 : zeroE Try.prog 57 = some (.opq .nilFunc) := by kernel_rfl
theorem zeros57 : zerosOf Try.prog 57 = some [.opq .nilFunc] := by kernel_rfl
theorem cells57 : Try.prog.cellsOf 57 = 1 := by kernel_rfl
theorem bytes57 : Try.prog.bytesOf 57 = 8 := by kernel_rfl
theorem agg57 : isAggT Try.prog 57 = false := by kernel_rfl
theorem ok57 : okT Try.prog 57 = true := by kernel_rfl
theorem zero58 : zeroE Try.prog 58 = some (.opq .nilFunc) := by kernel_rfl
theorem zeros58 : zerosOf Try.prog 58 = some [.opq .nilFunc] := by kernel_rfl
theorem cells58 : Try.prog.cellsOf 58 = 1 := by kernel_rfl
theorem bytes58 : Try.prog.bytesOf 58 = 8 := by kernel_rfl
theorem agg58 : isAggT Try.prog 58 = false := by kernel_rfl
theorem ok58 : okT Try.prog 58 = true := by kernel_rfl
theorem zero59 : zeroE Try.prog 59 = some (.int .u16 0) := by kernel_rfl
theorem zeros59 : zerosOf Try.prog 59 = some [.int .u16 0] := by kernel_rfl
theorem cells59 : Try.prog.cellsOf 59 = 1 := by kernel_rfl
theorem bytes59 : Try.prog.bytesOf 59 = 2 := by kernel_rfl
theorem agg59 : isAggT Try.prog 59 = false := by kernel_rfl
theorem ok59 : okT Try.prog 59 = true := by kernel_rfl
theorem zero60 : zeroE Try.prog 60 = some (.opq .nilFunc) := by kernel_rfl
theorem zeros60 : zerosOf Try.prog 60 = some [.opq .nilFunc] := by kernel_rfl
theorem cells60 : Try.prog.cellsOf 60 = 1 := by kernel_rfl
theorem bytes60 : Try.prog.bytesOf 60 = 8 := by kernel_rfl
theorem agg60 : isAggT Try.prog 60 = false := by kernel_rfl
theorem ok60 : okT Try.prog 60 = true := by kernel_rfl
theorem cells61 : Try.prog.cellsOf 61 = 1 := by kernel_rfl
theorem bytes61 : Try.prog.bytesOf 61 = 0 := by kernel_rfl
theorem agg61 : isAggT Try.prog 61 = false := by kernel_rfl
theorem ok61 : okT Try.prog 61 = true := by kernel_rfl
theorem zero62 : zeroE Try.prog 62 = some (.opq .nilFunc) := by kernel_rfl
theorem zeros62 : zerosOf Try.prog 62 = some [.opq .nilFunc] := by kernel_rfl
theorem cells62 : Try.prog.cellsOf 62 = 1 := by kernel_rfl
theorem bytes62 : Try.prog.bytesOf 62 = 8 := by kernel_rfl
theorem agg62 : isAggT Try.prog 62 = false := by kernel_rfl
theorem ok62 : okT Try.prog 62 = true := by kernel_rfl
theorem zero63 : zeroE Try.prog 63 = some (.int .u32 0) := by kernel_rfl
theorem zeros63 : zerosOf Try.prog 63 = some [.int .u32 0] := by kernel_rfl
theorem cells63 : Try.prog.cellsOf 63 = 1 := by kernel_rfl
theorem bytes63 : Try.prog.bytesOf 63 = 4 := by kernel_rfl
theorem agg63 : isAggT Try.prog 63 = false := by kernel_rfl
theorem ok63 : okT Try.prog 63 = true := by kernel_rfl
theorem cells64 : Try.prog.cellsOf 64 = 1 := by kernel_rfl
theorem bytes64 : Try.prog.bytesOf 64 = 0 := by kernel_rfl
theorem agg64 : isAggT Try.prog 64 = false := by kernel_rfl
theorem ok64 : okT Try.prog 64 = true := by kernel_rfl
theorem zero65 : zeroE Try.prog 65 = some (.opq .nilFunc) := by kernel_rfl
theorem zeros65 : zerosOf Try.prog 65 = some [.opq .nilFunc] := by kernel_rfl
theorem cells65 : Try.prog.cellsOf 65 = 1 := by kernel_rfl
theorem bytes65 : Try.prog.bytesOf 65 = 8 := by kernel_rfl
theorem agg65 : isAggT Try.prog 65 = false := by kernel_rfl
theorem ok65 : okT Try.prog 65 = true := by kernel_rfl
theorem cells66 : Try.prog.cellsOf 66 = 1 := by kernel_rfl
theorem bytes66 : Try.prog.bytesOf 66 = 0 := by kernel_rfl
theorem agg66 : isAggT Try.prog 66 = false := by kernel_rfl
theorem ok66 : okT Try.prog 66 = true := by kernel_rfl
theorem zero67 : zeroE Try.prog 67 = some (.opq .nilFunc) := by kernel_rfl
theorem zeros67 : zerosOf Try.prog 67 = some [.opq .nilFunc] := by kernel_rfl
theorem cells67 : Try.prog.cellsOf 67 = 1 := by kernel_rfl
theorem bytes67 : Try.prog.bytesOf 67 = 8 := by kernel_rfl
theorem agg67 : isAggT Try.prog 67 = false := by kernel_rfl
theorem ok67 : okT Try.prog 67 = true := by kernel_rfl
theorem zero68 : zeroE Try.prog 68 = some (.opq .nilFunc) := by kernel_rfl
theorem zeros68 : zerosOf Try.prog 68 = some [.opq .nilFunc] := by kernel_rfl
theorem cells68 : Try.prog.cellsOf 68 = 1 := by kernel_rfl
theorem bytes68 : Try.prog.bytesOf 68 = 8 := by kernel_rfl
theorem agg68 : isAggT Try.prog 68 = false := by kernel_rfl
theorem ok68 : okT Try.prog 68 = true := by kernel_rfl
theorem zero69 : zeroE Try.prog 69 = some (.opq .nilFunc) := by kernel_rfl
theorem zeros69 : zerosOf Try.prog 69 = some [.opq .nilFunc] := by kernel_rfl
theorem cells69 : Try.prog.cellsOf 69 = 1 := by kernel_rfl
theorem bytes69 : Try.prog.bytesOf 69 = 8 := by kernel_rfl
theorem agg69 : isAggT Try.prog 69 = false := by kernel_rfl
theorem ok69 : okT Try.prog 69 = true := by kernel_rfl
theorem zero70 : zeroE Try.prog 70 = some (.agg [.int .u8 0, .int .u8 0, .int .u8 0, .int .u8 0]) := by kernel_rfl
theorem zeros70 : zerosOf Try.prog 70 = some [.int .u8 0, .int .u8 0, .int .u8 0, .int .u8 0] := by kernel_rfl
theorem cells70 : Try.prog.cellsOf 70 = 4 := by kernel_rfl
theorem bytes70 : Try.prog.bytesOf 70 = 4 := by kernel_rfl
theorem agg70 : isAggT Try.prog 70 = true := by kernel_rfl
theorem ok70 : okT Try.prog 70 = true := by kernel_rfl
theorem zero71 : zeroE Try.prog 71 = some (.agg [.bool false, .bool false, .bool false, .bool false]) := by kernel_rfl
theorem zeros71 : zerosOf Try.prog 71 = some [.bool false, .bool false, .bool false, .bool false] := by kernel_rfl
theorem cells71 : Try.prog.cellsOf 71 = 4 := by kernel_rfl
theorem bytes71 : Try.prog.bytesOf 71 = 4 := by kernel_rfl
theorem agg71 : isAggT Try.prog 71 = true := by kernel_rfl
theorem ok71 : okT Try.prog 71 = true := by kernel_rfl
theorem zero72 : zeroE Try.prog 72 = some (.agg [.int .u8 0, .int .u8 0, .int .u8 0, .int .u8 0, .int .u8 0, .int .u8 0, .int .u8 0, .int .u8 0, .int .u8 0, .int .u8 0, .int .u8 0, .int .u8 0, .int .u8 0, .int .u8 0, .int .u8 0, .int .u8 0]) := by kernel_rfl
theorem zeros72 : zerosOf Try.prog 72 = some [.int .u8 0, .int .u8 0, .int .u8 0, .int .u8 0, .int .u8 0, .int .u8 0, .int .u8 0, .int .u8 0, .int .u8 0, .int .u8 0, .int .u8 0, .int .u8 0, .int .u8 0, .int .u8 0, .int .u8 0, .int .u8 0] := by kernel_rfl
theorem cells72 : Try.prog.cellsOf 72 = 16 := by kernel_rfl
theorem bytes72 : Try.prog.bytesOf 72 = 16 := by kernel_rfl
theorem agg72 : isAggT Try.prog 72 = true := by kernel_rfl
theorem ok72 : okT Try.prog 72 = true := by kernel_rfl
theorem zero73 : zeroE Try.prog 73 = some (.agg [.int .u8 0, .int .u8 0, .int .u8 0, .int .u8 0, .int .u8 0, .int .u8 0, .int .u8 0, .int .u8 0]) := by kernel_rfl
theorem zeros73 : zerosOf Try.prog 73 = some [.int .u8 0, .int .u8 0, .int .u8 0, .int .u8 0, .int .u8 0, .int .u8 0, .int .u8 0, .int .u8 0] := by kernel_rfl
theorem cells73 : Try.prog.cellsOf 73 = 8 := by kernel_rfl
theorem bytes73 : Try.prog.bytesOf 73 = 8 := by kernel_rfl
theorem agg73 : isAggT Try.prog 73 = true := by kernel_rfl
theorem ok73 : okT Try.prog 73 = true := by kernel_rfl
theorem zero74 : zeroE Try.prog 74 = some (.agg [.bool false, .int .u8 0, .int .u8 0, .int .u8 0, .int .u8 0, .bool false, .int .i64 0, .bool false, .bool false, .bool false, .bool false, .bool false, .int .u8 0, .int .u8 0, .int .u8 0, .int .u8 0, .int .u8 0, .int .u8 0, .int .u8 0, .int .u8 0, .int .u8 0, .int .u8 0, .int .u8 0, .int .u8 0, .int .u8 0, .int .u8 0, .int .u8 0, .int .u8 0, .bool false, .int .u8 0, .int .u8 0, .int .u8 0, .int .u8 0, .int .u8 0, .int .u8 0, .int .u8 0, .int .u8 0]) := by kernel_rfl
theorem zeros74 : zerosOf Try.prog 74 = some [.bool false, .int .u8 0, .int .u8 0, .int .u8 0, .int .u8 0, .bool false, .int .i64 0, .bool false, .bool false, .bool false, .bool false, .bool false, .int .u8 0, .int .u8 0, .int .u8 0, .int .u8 0, .int .u8 0, .int .u8 0, .int .u8 0, .int .u8 0, .int .u8 0, .int .u8 0, .int .u8 0, .int .u8 0, .int .u8 0, .int .u8 0, .int .u8 0, .int .u8 0, .bool false, .int .u8 0, .int .u8 0, .int .u8 0, .int .u8 0, .int .u8 0, .int .u8 0, .int .u8 0, .int .u8 0] := by kernel_rfl
theorem cells74 : Try.prog.cellsOf 74 = 37 := by kernel_rfl
theorem bytes74 : Try.prog.bytesOf 74 = 48 := by kernel_rfl
theorem agg74 : isAggT Try.prog 74 = true := by kernel_rfl
theorem ok74 : okT Try.prog 74 = true := by kernel_rfl
theorem zero75 : zeroE Try.prog 75 = some (.agg [.bool false, .int .u8 0, .int .u8 0, .int .u8 0, .int .u8 0, .bool false, .int .i64 0, .bool false, .bool false, .bool false, .bool false, .bool false, .int .u8 0, .int .u8 0, .int .u8 0, .int .u8 0, .int .u8 0, .int .u8 0, .int .u8 0, .int .u8 0, .int .u8 0, .int .u8 0, .int .u8 0, .int .u8 0, .int .u8 0, .int .u8 0, .int .u8 0, .int .u8 0, .bool false, .int .u8 0, .int .u8 0, .int .u8 0, .int .u8 0, .int .u8 0, .int .u8 0, .int .u8 0, .int .u8 0]) := by kernel_rfl
theorem zeros75 : zerosOf Try.prog 75 = some [.bool false, .int .u8 0, .int .u8 0, .int .u8 0, .int .u8 0, .bool false, .int .i64 0, .bool false, .bool false, .bool false, .bool false, .bool false, .int .u8 0, .int .u8 0, .int .u8 0, .int .u8 0, .int .u8 0, .int .u8 0, .int .u8 0, .int .u8 0, .int .u8 0, .int .u8 0, .int .u8 0, .int .u8 0, .int .u8 0, .int .u8 0, .int .u8 0, .int .u8 0, .bool false, .int .u8 0, .int .u8 0, .int .u8 0, .int .u8 0, .int .u8 0, .int .u8 0, .int .u8 0, .int .u8 0] := by kernel_rfl
theorem cells75 : Try.prog.cellsOf 75 = 37 := by kernel_rfl
theorem bytes75 : Try.prog.bytesOf 75 = 48 := by kernel_rfl
theorem agg75 : isAggT Try.prog 75 = true := by kernel_rfl
theorem ok75 : okT Try.prog 75 = true := by kernel_rfl
theorem cells76 : Try.prog.cellsOf 76 = 1 := by kernel_rfl
theorem bytes76 : Try.prog.bytesOf 76 = 0 := by kernel_rfl
theorem agg76 : isAggT Try.prog 76 = false := by kernel_rfl
theorem ok76 : okT Try.prog 76 = true := by kernel_rfl
theorem zero77 : zeroE Try.prog 77 = some (.opq .nilFunc) := by kernel_rfl
theorem zeros77 : zerosOf Try.prog 77 = some [.opq .nilFunc] := by kernel_rfl
theorem cells77 : Try.prog.cellsOf 77 = 1 := by kernel_rfl
theorem bytes77 : Try.prog.bytesOf 77 = 8 := by kernel_rfl
theorem agg77 : isAggT Try.prog 77 = false := by kernel_rfl
theorem ok77 : okT Try.prog 77 = true := by kernel_rfl
theorem zero78 : zeroE Try.prog 78 = some (.opq .nilFunc) := by kernel_rfl
theorem zeros78 : zerosOf Try.prog 78 = some [.opq .nilFunc] := by kernel_rfl
theorem cells78 : Try.prog.cellsOf 78 = 1 := by kernel_rfl
theorem bytes78 : Try.prog.bytesOf 78 = 8 := by kernel_rfl
theorem agg78 : isAggT Try.prog 78 = false := by kernel_rfl
theorem ok78 : okT Try.prog 78 = true := by kernel_rfl
theorem zero79 : zeroE Try.prog 79 = some (.opq .nilFunc) := by kernel_rfl
theorem zeros79 : zerosOf Try.prog 79 = some [.opq .nilFunc] := by kernel_rfl
theorem cells79 : Try.prog.cellsOf 79 = 1 := by kernel_rfl
theorem bytes79 : Try.prog.bytesOf 79 = 8 := by kernel_rfl
theorem agg79 : isAggT Try.prog 79 = false := by kernel_rfl
theorem ok79 : okT Try.prog 79 = true := by kernel_rfl
theorem zero80 : zeroE Try.prog 80 = some (.opq .nilFunc) := by kernel_rfl
theorem zeros80 : zerosOf Try.prog 80 = some [.opq .nilFunc] := by kernel_rfl
theorem cells80 : Try.prog.cellsOf 80 = 1 := by kernel_rfl
theorem bytes80 : Try.prog.bytesOf 80 = 8 := by kernel_rfl
theorem agg80 : isAggT Try.prog 80 = false := by kernel_rfl
theorem ok80 : okT Try.prog 80 = true := by kernel_rfl
theorem zero81 : zeroE Try.prog 81 = some (.opq .nilFunc) := by kernel_rfl
theorem zeros81 : zerosOf Try.prog 81 = some [.opq .nilFunc] := by kernel_rfl
theorem cells81 : Try.prog.cellsOf 81 = 1 := by kernel_rfl
theorem bytes81 : Try.prog.bytesOf 81 = 8 := by kernel_rfl
theorem agg81 : isAggT Try.prog 81 = false := by kernel_rfl
theorem ok81 : okT Try.prog 81 = true := by kernel_rfl
theorem cells82 : Try.prog.cellsOf 82 = 1 := by kernel_rfl
theorem bytes82 : Try.prog.bytesOf 82 = 0 := by kernel_rfl
theorem agg82 : isAggT Try.prog 82 = false := by kernel_rfl
theorem ok82 : okT Try.prog 82 = true := by kernel_rfl
theorem zero83 : zeroE Try.prog 83 = some (.opq .nilFunc) := by kernel_rfl
theorem zeros83 : zerosOf Try.prog 83 = some [.opq .nilFunc] := by kernel_rfl
theorem cells83 : Try.prog.cellsOf 83 = 1 := by kernel_rfl
theorem bytes83 : Try.prog.bytesOf 83 = 8 := by kernel_rfl
theorem agg83 : isAggT Try.prog 83 = false := by kernel_rfl
theorem ok83 : okT Try.prog 83 = true := by kernel_rfl
theorem zero84 : zeroE Try.prog 84 = some (.opq .nilFunc) := by kernel_rfl
theorem zeros84 : zerosOf Try.prog 84 = some [.opq .nilFunc] := by kernel_rfl
theorem cells84 : Try.prog.cellsOf 84 = 1 := by kernel_rfl
theorem bytes84 : Try.prog.bytesOf 84 = 8 := by kernel_rfl
theorem agg84 : isAggT Try.prog 84 = false := by kernel_rfl
theorem ok84 : okT Try.prog 84 = true := by kernel_rfl
theorem zero85 : zeroE Try.prog 85 = some (.agg [.int .i64 0, .int .i64 0]) := by kernel_rfl
theorem zeros85 : zerosOf Try.prog 85 = some [.int .i64 0, .int .i64 0] := by kernel_rfl
theorem cells85 : Try.prog.cellsOf 85 = 2 := by kernel_rfl
theorem bytes85 : Try.prog.bytesOf 85 = 16 := by kernel_rfl
theorem agg85 : isAggT Try.prog 85 = true := by kernel_rfl
theorem ok85 : okT Try.prog 85 = true := by kernel_rfl
theorem zero86 : zeroE Try.prog 86 = some (.agg [.int .i64 0, .int .i64 0]) := by kernel_rfl
theorem zeros86 : zerosOf Try.prog 86 = some [.int .i64 0, .int .i64 0] := by kernel_rfl
theorem cells86 : Try.prog.cellsOf 86 = 2 := by kernel_rfl
theorem bytes86 : Try.prog.bytesOf 86 = 16 := by kernel_rfl
theorem agg86 : isAggT Try.prog 86 = true := by kernel_rfl
theorem ok86 : okT Try.prog 86 = true := by kernel_rfl
theorem zero87 : zeroE Try.prog 87 = some (.agg [.int .i64 0, .int .i64 0, .int .i64 0, .bool false, .bool false, .int .i64 0, .str []]) := by kernel_rfl
theorem zeros87 : zerosOf Try.prog 87 = some [.int .i64 0, .int .i64 0, .int .i64 0, .bool false, .bool false, .int .i64 0, .str []] := by kernel_rfl
theorem cells87 : Try.prog.cellsOf 87 = 7 := by kernel_rfl
theorem bytes87 : Try.prog.bytesOf 87 = 56 := by kernel_rfl
theorem agg87 : isAggT Try.prog 87 = true := by kernel_rfl
theorem ok87 : okT Try.prog 87 = true := by kernel_rfl
theorem zero88 : zeroE Try.prog 88 = some (.agg [.int .i64 0, .int .i64 0, .int .i64 0, .bool false, .bool false, .int .i64 0, .str []]) := by kernel_rfl
theorem zeros88 : zerosOf Try.prog 88 = some [.int .i64 0, .int .i64 0, .int .i64 0, .bool false, .bool false, .int .i64 0, .str []] := by kernel_rfl
theorem cells88 : Try.prog.cellsOf 88 = 7 := by kernel_rfl
theorem bytes88 : Try.prog.bytesOf 88 = 56 := by kernel_rfl
theorem agg88 : isAggT Try.prog 88 = true := by kernel_rfl
theorem ok88 : okT Try.prog 88 = true := by kernel_rfl
theorem zero89 : zeroE Try.prog 89 = some (.opq .nilFunc) := by kernel_rfl
theorem zeros89 : zerosOf Try.prog 89 = some [.opq .nilFunc] := by kernel_rfl
theorem cells89 : Try.prog.cellsOf 89 = 1 := by kernel_rfl
theorem bytes89 : Try.prog.bytesOf 89 = 8 := by kernel_rfl
theorem agg89 : isAggT Try.prog 89 = false := by kernel_rfl
theorem ok89 : okT Try.prog 89 = true := by kernel_rfl
theorem zero90 : zeroE Try.prog 90 = some (.opq .nilFunc) := by kernel_rfl
theorem zeros90 : zerosOf Try.prog 90 = some [.opq .nilFunc] := by kernel_rfl
theorem cells90 : Try.prog.cellsOf 90 = 1 := by kernel_rfl
theorem bytes90 : Try.prog.bytesOf 90 = 8 := by kernel_rfl
theorem agg90 : isAggT Try.prog 90 = false := by kernel_rfl
theorem ok90 : okT Try.prog 90 = true := by kernel_rfl
theorem zero91 : zeroE Try.prog 91 = some (.opq .nilFunc) := by kernel_rfl
theorem zeros91 : zerosOf Try.prog 91 = some [.opq .nilFunc] := by kernel_rfl
theorem cells91 : Try.prog.cellsOf 91 = 1 := by kernel_rfl
theorem bytes91 : Try.prog.bytesOf 91 = 8 := by kernel_rfl
theorem agg91 : isAggT Try.prog 91 = false := by kernel_rfl
theorem ok91 : okT Try.prog 91 = true := by kernel_rfl
theorem zero92 : zeroE Try.prog 92 = some (.opq .nilFunc) := by kernel_rfl
theorem zeros92 : zerosOf Try.prog 92 = some [.opq .nilFunc] := by kernel_rfl
theorem cells92 : Try.prog.cellsOf 92 = 1 := by kernel_rfl
theorem bytes92 : Try.prog.bytesOf 92 = 8 := by kernel_rfl
theorem agg92 : isAggT Try.prog 92 = false := by kernel_rfl
theorem ok92 : okT Try.prog 92 = true := by kernel_rfl
theorem zero93 : zeroE Try.prog 93 = some (.opq .nilFunc) := by kernel_rfl
theorem zeros93 : zerosOf Try.prog 93 = some [.opq .nilFunc] := by kernel_rfl
theorem cells93 : Try.prog.cellsOf 93 = 1 := by kernel_rfl
theorem bytes93 : Try.prog.bytesOf 93 = 8 := by kernel_rfl
theorem agg93 : isAggT Try.prog 93 = false := by kernel_rfl
theorem ok93 : okT Try.prog 93 = true := by kernel_rfl
theorem zero94 : zeroE Try.prog 94 = some (.opq .nilFunc) := by kernel_rfl
theorem zeros94 : zerosOf Try.prog 94 = some [.opq .nilFunc] := by kernel_rfl
theorem cells94 : Try.prog.cellsOf 94 = 1 := by kernel_rfl
theorem bytes94 : Try.prog.bytesOf 94 = 8 := by kernel_rfl
theorem agg94 : isAggT Try.prog 94 = false := by kernel_rfl
theorem ok94 : okT Try.prog 94 = true := by kernel_rfl
theorem zero95 : zeroE Try.prog 95 = some (.opq .nilFunc) := by kernel_rfl
theorem zeros95 : zerosOf Try.prog 95 = some [.opq .nilFunc] := by kernel_rfl
theorem cells95 : Try.prog.cellsOf 95 = 1 := by kernel_rfl
theorem bytes95 : Try.prog.bytesOf 95 = 8 := by kernel_rfl
theorem agg95 : isAggT Try.prog 95 = false := by kernel_rfl
theorem ok95 : okT Try.prog 95 = true := by kernel_rfl
theorem zero96 : zeroE Try.prog 96 = some (.opq .nilFunc) := by kernel_rfl
theorem zeros96 : zerosOf Try.prog 96 = some [.opq .nilFunc] := by kernel_rfl
theorem cells96 : Try.prog.cellsOf 96 = 1 := by kernel_rfl
theorem bytes96 : Try.prog.bytesOf 96 = 8 := by kernel_rfl
theorem agg96 : isAggT Try.prog 96 = false := by kernel_rfl
theorem ok96 : okT Try.prog 96 = true := by kernel_rfl
theorem zero97 : zeroE Try.prog 97 = some (.opq .nilFunc) := by kernel_rfl
theorem zeros97 : zerosOf Try.prog 97 = some [.opq .nilFunc] := by kernel_rfl
theorem cells97 : Try.prog.cellsOf 97 = 1 := by kernel_rfl
theorem bytes97 : Try.prog.bytesOf 97 = 8 := by kernel_rfl
theorem agg97 : isAggT Try.prog 97 = false := by kernel_rfl
theorem ok97 : okT Try.prog 97 = true := by kernel_rfl
theorem zero98 : zeroE Try.prog 98 = some (.opq .nilFunc) := by kernel_rfl
theorem zeros98 : zerosOf Try.prog 98 = some [.opq .nilFunc] := by kernel_rfl
theorem cells98 : Try.prog.cellsOf 98 = 1 := by kernel_rfl
theorem bytes98 : Try.prog.bytesOf 98 = 8 := by kernel_rfl
theorem agg98 : isAggT Try.prog 98 = false := by kernel_rfl
theorem ok98 : okT Try.prog 98 = true := by kernel_rfl
theorem zero99 : zeroE Try.prog 99 = some (.opq .nilFunc) := by kernel_rfl
theorem zeros99 : zerosOf Try.prog 99 = some [.opq .nilFunc] := by kernel_rfl
theorem cells99 : Try.prog.cellsOf 99 = 1 := by kernel_rfl
theorem bytes99 : Try.prog.bytesOf 99 = 8 := by kernel_rfl
theorem agg99 : isAggT Try.prog 99 = false := by kernel_rfl
theorem ok99 : okT Try.prog 99 = true := by kernel_rfl
theorem zero100 : zeroE Try.prog 100 = some (.opq .nilFunc) := by kernel_rfl
theorem zeros100 : zerosOf Try.prog 100 = some [.opq .nilFunc] := by kernel_rfl
theorem cells100 : Try.prog.cellsOf 100 = 1 := by kernel_rfl
theorem bytes100 : Try.prog.bytesOf 100 = 8 := by kernel_rfl
theorem agg100 : isAggT Try.prog 100 = false := by kernel_rfl
theorem ok100 : okT Try.prog 100 = true := by kernel_rfl
theorem zero101 : zeroE Try.prog 101 = some (.opq (.map none)) := by kernel_rfl
theorem zeros101 : zerosOf Try.prog 101 = some [.opq (.map none)] := by kernel_rfl
theorem cells101 : Try.prog.cellsOf 101 = 1 := by kernel_rfl
theorem bytes101 : Try.prog.bytesOf 101 = 8 := by kernel_rfl
theorem agg101 : isAggT Try.prog 101 = false := by kernel_rfl
theorem ok101 : okT Try.prog 101 = true := by kernel_rfl
theorem zero102 : zeroE Try.prog 102 = some (.opq .nilFunc) := by kernel_rfl
theorem zeros102 : zerosOf Try.prog 102 = some [.opq .nilFunc] := by kernel_rfl
theorem cells102 : Try.prog.cellsOf 102 = 1 := by kernel_rfl
theorem bytes102 : Try.prog.bytesOf 102 = 8 := by kernel_rfl
theorem agg102 : isAggT Try.prog 102 = false := by kernel_rfl
theorem ok102 : okT Try.prog 102 = true := by kernel_rfl
theorem zero103 : zeroE Try.prog 103 = some (.opq .nilFunc) := by kernel_rfl
theorem zeros103 : zerosOf Try.prog 103 = some [.opq .nilFunc] := by kernel_rfl
theorem cells103 : Try.prog.cellsOf 103 = 1 := by kernel_rfl
theorem bytes103 : Try.prog.bytesOf 103 = 8 := by kernel_rfl
theorem agg103 : isAggT Try.prog 103 = false := by kernel_rfl
theorem ok103 : okT Try.prog 103 = true := by kernel_rfl
theorem cells104 : Try.prog.cellsOf 104 = 1 := by kernel_rfl
theorem bytes104 : Try.prog.bytesOf 104 = 0 := by kernel_rfl
theorem agg104 : isAggT Try.prog 104 = false := by kernel_rfl
theorem ok104 : okT Try.prog 104 = true := by kernel_rfl
theorem zero105 : zeroE Try.prog 105 = some (.opq .nilFunc) := by kernel_rfl
theorem zeros105 : zerosOf Try.prog 105 = some [.opq .nilFunc] := by kernel_rfl
theorem cells105 : Try.prog.cellsOf 105 = 1 := by kernel_rfl
theorem bytes105 : Try.prog.bytesOf 105 = 8 := by kernel_rfl
theorem agg105 : isAggT Try.prog 105 = false := by kernel_rfl
theorem ok105 : okT Try.prog 105 = true := by kernel_rfl
theorem zero106 : zeroE Try.prog 106 = some (.opq .nilFunc) := by kernel_rfl
theorem zeros106 : zerosOf Try.prog 106 = some [.opq .nilFunc] := by kernel_rfl
theorem cells106 : Try.prog.cellsOf 106 = 1 := by kernel_rfl
theorem bytes106 : Try.prog.bytesOf 106 = 8 := by kernel_rfl
theorem agg106 : isAggT Try.prog 106 = false := by kernel_rfl
theorem ok106 : okT Try.prog 106 = true := by kernel_rfl
theorem zero107 : zeroE Try.prog 107 = some (.opq (.pointer none)) := by kernel_rfl
theorem zeros107 : zerosOf Try.prog 107 = some [.opq (.pointer none)] := by kernel_rfl
theorem cells107 : Try.prog.cellsOf 107 = 1 := by kernel_rfl
theorem bytes107 : Try.prog.bytesOf 107 = 8 := by kernel_rfl
theorem agg107 : isAggT Try.prog 107 = false := by kernel_rfl
theorem ok107 : okT Try.prog 107 = true := by kernel_rfl
theorem zero108 : zeroE Try.prog 108 = some (.opq .nilFunc) := by kernel_rfl
theorem zeros108 : zerosOf Try.prog 108 = some [.opq .nilFunc] := by kernel_rfl
theorem cells108 : Try.prog.cellsOf 108 = 1 := by kernel_rfl
theorem bytes108 : Try.prog.bytesOf 108 = 8 := by kernel_rfl
theorem agg108 : isAggT Try.prog 108 = false := by kernel_rfl
theorem ok108 : okT Try.prog 108 = true := by kernel_rfl
theorem zero109 : zeroE Try.prog 109 = some (.opq .nilFunc) := by kernel_rfl
theorem zeros109 : zerosOf Try.prog 109 = some [.opq .nilFunc] := by kernel_rfl
theorem cells109 : Try.prog.cellsOf 109 = 1 := by kernel_rfl
theorem bytes109 : Try.prog.bytesOf 109 = 8 := by kernel_rfl
theorem agg109 : isAggT Try.prog 109 = false := by kernel_rfl
theorem ok109 : okT Try.prog 109 = true := by kernel_rfl
theorem zero110 : zeroE Try.prog 110 = some (.opq .nilFunc) := by kernel_rfl
theorem zeros110 : zerosOf Try.prog 110 = some [.opq .nilFunc] := by kernel_rfl
theorem cells110 : Try.prog.cellsOf 110 = 1 := by kernel_rfl
theorem bytes110 : Try.prog.bytesOf 110 = 8 := by kernel_rfl
theorem agg110 : isAggT Try.prog 110 = false := by kernel_rfl
theorem ok110 : okT Try.prog 110 = true := by kernel_rfl
theorem cells111 : Try.prog.cellsOf 111 = 1 := by kernel_rfl
theorem bytes111 : Try.prog.bytesOf 111 = 0 := by kernel_rfl
theorem agg111 : isAggT Try.prog 111 = false := by kernel_rfl
theorem ok111 : okT Try.prog 111 = true := by kernel_rfl
theorem zero112 : zeroE Try.prog 112 = some (.opq .nilFunc) := by kernel_rfl
theorem zeros112 : zerosOf Try.prog 112 = some [.opq .nilFunc] := by kernel_rfl
theorem cells112 : Try.prog.cellsOf 112 = 1 := by kernel_rfl
theorem bytes112 : Try.prog.bytesOf 112 = 8 := by kernel_rfl
theorem agg112 : isAggT Try.prog 112 = false := by kernel_rfl
theorem ok112 : okT Try.prog 112 = true := by kernel_rfl
theorem zero113 : zeroE Try.prog 113 = some (.opq (.map none)) := by kernel_rfl
theorem zeros113 : zerosOf Try.prog 113 = some [.opq (.map none)] := by kernel_rfl
theorem cells113 : Try.prog.cellsOf 113 = 1 := by kernel_rfl
theorem bytes113 : Try.prog.bytesOf 113 = 8 := by kernel_rfl
theorem agg113 : isAggT Try.prog 113 = false := by kernel_rfl
theorem ok113 : okT Try.prog 113 = true := by kernel_rfl
theorem zero114 : zeroE Try.prog 114 = some (.opq .nilFunc) := by kernel_rfl
theorem zeros114 : zerosOf Try.prog 114 = some [.opq .nilFunc] := by kernel_rfl
theorem cells114 : Try.prog.cellsOf 114 = 1 := by kernel_rfl
theorem bytes114 : Try.prog.bytesOf 114 = 8 := by kernel_rfl
theorem agg114 : isAggT Try.prog 114 = false := by kernel_rfl
theorem ok114 : okT Try.prog 114 = true := by kernel_rfl
theorem zero115 : zeroE Try.prog 115 = some (.opq .nilFunc) := by kernel_rfl
theorem zeros115 : zerosOf Try.prog 115 = some [.opq .nilFunc] := by kernel_rfl
theorem cells115 : Try.prog.cellsOf 115 = 1 := by kernel_rfl
theorem bytes115 : Try.prog.bytesOf 115 = 8 := by kernel_rfl
theorem agg115 : isAggT Try.prog 115 = false := by kernel_rfl
theorem ok115 : okT Try.prog 115 = true := by kernel_rfl
theorem cells116 : Try.prog.cellsOf 116 = 1 := by kernel_rfl
theorem bytes116 : Try.prog.bytesOf 116 = 0 := by kernel_rfl
theorem agg116 : isAggT Try.prog 116 = false := by kernel_rfl
theorem ok116 : okT Try.prog 116 = true := by kernel_rfl
theorem zero117 : zeroE Try.prog 117 = some (.opq .nilFunc) := by kernel_rfl
theorem zeros117 : zerosOf Try.prog 117 = some [.opq .nilFunc] := by kernel_rfl
theorem cells117 : Try.prog.cellsOf 117 = 1 := by kernel_rfl
theorem bytes117 : Try.prog.bytesOf 117 = 8 := by kernel_rfl
theorem agg117 : isAggT Try.prog 117 = false := by kernel_rfl
theorem ok117 : okT Try.prog 117 = true := by kernel_rfl
theorem zero118 : zeroE Try.prog 118 = some (.opq .nilFunc) := by kernel_rfl
theorem zeros118 : zerosOf Try.prog 118 = some [.opq .nilFunc] := by kernel_rfl
theorem cells118 : Try.prog.cellsOf 118 = 1 := by kernel_rfl
theorem bytes118 : Try.prog.bytesOf 118 = 8 := by kernel_rfl
theorem agg118 : isAggT Try.prog 118 = false := by kernel_rfl
theorem ok118 : okT Try.prog 118 = true := by kernel_rfl
theorem cells119 : Try.prog.cellsOf 119 = 1 := by kernel_rfl
theorem bytes119 : Try.prog.bytesOf 119 = 0 := by kernel_rfl
theorem agg119 : isAggT Try.prog 119 = false := by kernel_rfl
theorem ok119 : okT Try.prog 119 = true := by kernel_rfl
theorem zero120 : zeroE Try.prog 120 = some (.opq .nilFunc) := by kernel_rfl
theorem zeros120 : zerosOf Try.prog 120 = some [.opq .nilFunc] := by kernel_rfl
theorem cells120 : Try.prog.cellsOf 120 = 1 := by kernel_rfl
theorem bytes120 : Try.prog.bytesOf 120 = 8 := by kernel_rfl
theorem agg120 : isAggT Try.prog 120 = false := by kernel_rfl
theorem ok120 : okT Try.prog 120 = true := by kernel_rfl
theorem zero121 : zeroE Try.prog 121 = some (.opq .nilFunc) := by kernel_rfl
theorem zeros121 : zerosOf Try.prog 121 = some [.opq .nilFunc] := by kernel_rfl
theorem cells121 : Try.prog.cellsOf 121 = 1 := by kernel_rfl
theorem bytes121 : Try.prog.bytesOf 121 = 8 := by kernel_rfl
theorem agg121 : isAggT Try.prog 121 = false := by kernel_rfl
theorem ok121 : okT Try.prog 121 = true := by kernel_rfl
theorem zero122 : zeroE Try.prog 122 = some (.opq .nilFunc) := by kernel_rfl
theorem zeros122 : zerosOf Try.prog 122 = some [.opq .nilFunc] := by kernel_rfl
theorem cells122 : Try.prog.cellsOf 122 = 1 := by kernel_rfl
theorem bytes122 : Try.prog.bytesOf 122 = 8 := by kernel_rfl
theorem agg122 : isAggT Try.prog 122 = false := by kernel_rfl
theorem ok122 : okT Try.prog 122 = true := by kernel_rfl
theorem zero123 : zeroE Try.prog 123 = some (.opq .nilFunc) := by kernel_rfl
theorem zeros123 : zerosOf Try.prog 123 = some [.opq .nilFunc] := by kernel_rfl
theorem cells123 : Try.prog.cellsOf 123 = 1 := by kernel_rfl
theorem bytes123 : Try.prog.bytesOf 123 = 8 := by kernel_rfl
theorem agg123 : isAggT Try.prog 123 = false := by kernel_rfl
theorem ok123 : okT Try.prog 123 = true := by kernel_rfl
theorem zero124 : zeroE Try.prog 124 = some (.agg [.opq (.pointer none), .opq (.pointer none), .opq (.pointer none), .str []]) := by kernel_rfl
theorem zeros124 : zerosOf Try.prog 124 = some [.opq (.pointer none), .opq (.pointer none), .opq (.pointer none), .str []] := by kernel_rfl
theorem cells124 : Try.prog.cellsOf 124 = 4 := by kernel_rfl
theorem bytes124 : Try.prog.bytesOf 124 = 40 := by kernel_rfl
theorem agg124 : isAggT Try.prog 124 = true := by kernel_rfl
theorem ok124 : okT Try.prog 124 = true := by kernel_rfl
theorem zero125 : zeroE Try.prog 125 = some (.agg [.opq (.pointer none), .opq (.pointer none), .opq (.pointer none), .str []]) := by kernel_rfl
theorem zeros125 : zerosOf Try.prog 125 = some [.opq (.pointer none), .opq (.pointer none), .opq (.pointer none), .str []] := by kernel_rfl
theorem cells125 : Try.prog.cellsOf 125 = 4 := by kernel_rfl
theorem bytes125 : Try.prog.bytesOf 125 = 40 := by kernel_rfl
theorem agg125 : isAggT Try.prog 125 = true := by kernel_rfl
theorem ok125 : okT Try.prog 125 = true := by kernel_rfl
theorem zero126 : zeroE Try.prog 126 = some (.agg []) := by kernel_rfl
theorem zeros126 : zerosOf Try.prog 126 = some [] := by kernel_rfl
theorem zero127 : zeroE Try.prog 127 = some (.agg []) := by kernel_rfl
theorem zeros127 : zerosOf Try.prog 127 = some [] := by kernel_rfl
theorem zero128 : zeroE Try.prog 128 = some (.agg []) := by kernel_rfl
theorem zeros128 : zerosOf Try.prog 128 = some [] := by kernel_rfl
theorem zero129 : zeroE Try.prog 129 = some (.opq .nilFunc) := by kernel_rfl
theorem zeros129 : zerosOf Try.prog 129 = some [.opq .nilFunc] := by kernel_rfl
theorem cells129 : Try.prog.cellsOf 129 = 1 := by kernel_rfl
theorem bytes129 : Try.prog.bytesOf 129 = 8 := by kernel_rfl
theorem agg129 : isAggT Try.prog 129 = false := by kernel_rfl
theorem ok129 : okT Try.prog 129 = true := by kernel_rfl
theorem zero130 : zeroE Try.prog 130 = some (.int .u8 0) := by kernel_rfl
theorem zeros130 : zerosOf Try.prog 130 = some [.int .u8 0] := by kernel_rfl
theorem cells130 : Try.prog.cellsOf 130 = 1 := by kernel_rfl
theorem bytes130 : Try.prog.bytesOf 130 = 1 := by kernel_rfl
theorem agg130 : isAggT Try.prog 130 = false := by kernel_rfl
theorem ok130 : okT Try.prog 130 = true := by kernel_rfl
theorem zero131 : zeroE Try.prog 131 = some (.int .u8 0) := by kernel_rfl
theorem zeros131 : zerosOf Try.prog 131 = some [.int .u8 0] := by kernel_rfl
theorem cells131 : Try.prog.cellsOf 131 = 1 := by kernel_rfl
theorem bytes131 : Try.prog.bytesOf 131 = 1 := by kernel_rfl
theorem agg131 : isAggT Try.prog 131 = false := by kernel_rfl
theorem ok131 : okT Try.prog 131 = true := by kernel_rfl
theorem zero132 : zeroE Try.prog 132 = some (.opq .nilFunc) := by kernel_rfl
theorem zeros132 : zerosOf Try.prog 132 = some [.opq .nilFunc] := by kernel_rfl
theorem cells132 : Try.prog.cellsOf 132 = 1 := by kernel_rfl
theorem bytes132 : Try.prog.bytesOf 132 = 8 := by kernel_rfl
theorem agg132 : isAggT Try.prog 132 = false := by kernel_rfl
theorem ok132 : okT Try.prog 132 = true := by kernel_rfl
theorem zero133 : zeroE Try.prog 133 = some (.opq (.pointer none)) := by kernel_rfl
theorem zeros133 : zerosOf Try.prog 133 = some [.opq (.pointer none)] := by kernel_rfl
theorem cells133 : Try.prog.cellsOf 133 = 1 := by kernel_rfl
theorem bytes133 : Try.prog.bytesOf 133 = 8 := by kernel_rfl
theorem agg133 : isAggT Try.prog 133 = false := by kernel_rfl
theorem ok133 : okT Try.prog 133 = true := by kernel_rfl
theorem zero134 : zeroE Try.prog 134 = some (.int .i32 0) := by kernel_rfl
theorem zeros134 : zerosOf Try.prog 134 = some [.int .i32 0] := by kernel_rfl
theorem cells134 : Try.prog.cellsOf 134 = 1 := by kernel_rfl
theorem bytes134 : Try.prog.bytesOf 134 = 4 := by kernel_rfl
theorem agg134 : isAggT Try.prog 134 = false := by kernel_rfl
theorem ok134 : okT Try.prog 134 = true := by kernel_rfl
theorem zero135 : zeroE Try.prog 135 = some (.int .i32 0) := by kernel_rfl
theorem zeros135 : zerosOf Try.prog 135 = some [.int .i32 0] := by kernel_rfl
theorem cells135 : Try.prog.cellsOf 135 = 1 := by kernel_rfl
theorem bytes135 : Try.prog.bytesOf 135 = 4 := by kernel_rfl
theorem agg135 : isAggT Try.prog 135 = false := by kernel_rfl
theorem ok135 : okT Try.prog 135 = true := by kernel_rfl
theorem zero136 : zeroE Try.prog 136 = some (.agg [.int .u64 0, .int .u64 0, .int .u32 0, .int .u8 0, .int .u8 0, .int .u8 0, .int .u8 0, .opq .nilFunc, .opq (.pointer none), .int .i32 0, .int .i32 0]) := by kernel_rfl
theorem zeros136 : zerosOf Try.prog 136 = some [.int .u64 0, .int .u64 0, .int .u32 0, .int .u8 0, .int .u8 0, .int .u8 0, .int .u8 0, .opq .nilFunc, .opq (.pointer none), .int .i32 0, .int .i32 0] := by kernel_rfl
theorem cells136 : Try.prog.cellsOf 136 = 11 := by kernel_rfl
theorem bytes136 : Try.prog.bytesOf 136 = 48 := by kernel_rfl
theorem agg136 : isAggT Try.prog 136 = true := by kernel_rfl
theorem ok136 : okT Try.prog 136 = true := by kernel_rfl
theorem zero137 : zeroE Try.prog 137 = some (.agg [.int .u64 0, .int .u64 0, .int .u32 0, .int .u8 0, .int .u8 0, .int .u8 0, .int .u8 0, .opq .nilFunc, .opq (.pointer none), .int .i32 0, .int .i32 0]) := by kernel_rfl
theorem zeros137 : zerosOf Try.prog 137 = some [.int .u64 0, .int .u64 0, .int .u32 0, .int .u8 0, .int .u8 0, .int .u8 0, .int .u8 0, .opq .nilFunc, .opq (.pointer none), .int .i32 0, .int .i32 0] := by kernel_rfl
theorem cells137 : Try.prog.cellsOf 137 = 11 := by kernel_rfl
theorem bytes137 : Try.prog.bytesOf 137 = 48 := by kernel_rfl
theorem agg137 : isAggT Try.prog 137 = true := by kernel_rfl
theorem ok137 : okT Try.prog 137 = true := by kernel_rfl
theorem zero138 : zeroE Try.prog 138 = some (.opq (.pointer none)) := by kernel_rfl
theorem zeros138 : zerosOf Try.prog 138 = some [.opq (.pointer none)] := by kernel_rfl
theorem cells138 : Try.prog.cellsOf 138 = 1 := by kernel_rfl
theorem bytes138 : Try.prog.bytesOf 138 = 8 := by kernel_rfl
theorem agg138 : isAggT Try.prog 138 = false := by kernel_rfl
theorem ok138 : okT Try.prog 138 = true := by kernel_rfl
theorem place32 : placeV Try.prog 32 = some (fun i => ([(0, 1), (1, 1)] : List (Nat × Nat))[i]?) := placeV_of Try.underlying32 (by kernel_rfl) (by kernel_rfl)
theorem place42 : placeV Try.prog 42 = some (fun i => ([(0, 1), (1, 1)] : List (Nat × Nat))[i]?) := placeV_of Try.underlying42 (by kernel_rfl) (by kernel_rfl)
theorem place49 : placeV Try.prog 49 = some (fun i => ([(0, 1), (1, 1), (2, 1)] : List (Nat × Nat))[i]?) := placeV_of Try.underlying49 (by kernel_rfl) (by kernel_rfl)
theorem place75 : placeV Try.prog 75 = some (fun i => ([(0, 1), (1, 4), (5, 1), (6, 1), (7, 1), (8, 4), (12, 16), (28, 1), (29, 8)] : List (Nat × Nat))[i]?) := placeV_of Try.underlying75 (by kernel_rfl) (by kernel_rfl)
theorem place86 : placeV Try.prog 86 = some (fun i => ([(0, 1), (1, 1)] : List (Nat × Nat))[i]?) := placeV_of Try.underlying86 (by kernel_rfl) (by kernel_rfl)
theorem place88 : placeV Try.prog 88 = some (fun i => ([(0, 2), (2, 1), (3, 1), (4, 1), (5, 1), (6, 1)] : List (Nat × Nat))[i]?) := placeV_of Try.underlying88 (by kernel_rfl) (by kernel_rfl)
theorem place70 : placeV Try.prog 70 = some (fun i => some (i * 1, 1)) := placeV_arr Try.underlying70 cells5 (by decide)
theorem place71 : placeV Try.prog 71 = some (fun i => some (i * 1, 1)) := placeV_arr Try.underlying71 cells4 (by decide)
theorem place72 : placeV Try.prog 72 = some (fun i => some (i * 4, 4)) := placeV_arr Try.underlying72 cells70 (by decide)
theorem place73 : placeV Try.prog 73 = some (fun i => some (i * 1, 1)) := placeV_arr Try.underlying73 cells5 (by decide)
attribute [go_sem] cells0 bytes0 agg0 ok0 zero1 zeros1 cells1 bytes1 agg1 ok1 zero2 zeros2 cells2 bytes2 agg2 ok2 zero3 zeros3 cells3 bytes3 agg3 ok3 zero4 zeros4 cells4 bytes4 agg4 ok4 zero5 zeros5 cells5 bytes5 agg5 ok5 zero6 zeros6 cells6 bytes6 agg6 ok6 zero7 zeros7 cells7 bytes7 agg7 ok7 zero8 zeros8 cells8 bytes8 agg8 ok8 zero9 zeros9 cells9 bytes9 agg9 ok9 zero10 zeros10 cells10 bytes10 agg10 ok10 zero11 zeros11 cells11 bytes11 agg11 ok11 zero12 zeros12 cells12 bytes12 agg12 ok12 zero13 zeros13 cells13 bytes13 agg13 ok13 zero14 zeros14 cells14 bytes14 agg14 ok14 zero15 zeros15 cells15 bytes15 agg15 ok15 zero16 zeros16 cells16 bytes16 agg16 ok16 zero17 zeros17 cells17 bytes17 agg17 ok17 zero18 zeros18 cells18 bytes18 agg18 ok18 zero19 zeros19 cells19 bytes19 agg19 ok19 zero20 zeros20 cells20 bytes20 agg20 ok20 zero21 zeros21 cells21 bytes21 agg21 ok21 zero22 zeros22 cells22 bytes22 agg22 ok22 zero23 zeros23 cells23 bytes23 agg23 ok23 zero24 zeros24 cells24 bytes24 agg24 ok24 zero25 zeros25 cells25 bytes25 agg25 ok25 zero26 zeros26 cells26 bytes26 agg26 ok26 cells27 bytes27 agg27 ok27 zero28 zeros28 cells28 bytes28 agg28 ok28 zero29 zeros29 cells29 bytes29 agg29 ok29 zero30 zeros30 cells30 bytes30 agg30 ok30 zero31 zeros31 cells31 bytes31 agg31 ok31 zero32 zeros32 cells32 bytes32 agg32 ok32 cells33 bytes33 agg33 ok33 zero34 zeros34 cells34 bytes34 agg34 ok34 zero35 zeros35 cells35 bytes35 agg35 ok35 zero36 zeros36 cells36 bytes36 agg36 ok36 zero37 zeros37 cells37 bytes37 agg37 ok37 cells38 bytes38 agg38 ok38 zero39 zeros39 cells39 bytes39 agg39 ok39 zero40 zeros40 cells40 bytes40 agg40 ok40 zero41 zeros41 cells41 bytes41 agg41 ok41 zero42 zeros42 cells42 bytes42 agg42 ok42 zero43 zeros43 cells43 bytes43 agg43 ok43 zero44 zeros44 cells44 bytes44 agg44 ok44 zero45 zeros45 cells45 bytes45 agg45 ok45 zero46 zeros46 cells46 bytes46 agg46 ok46 zero47 zeros47 cells47 bytes47 agg47 ok47 zero48 zeros48 cells48 bytes48 agg48 ok48 zero49 zeros49 cells49 bytes49 agg49 ok49 zero50 zeros50 cells50 bytes50 agg50 ok50 cells51 bytes51 agg51 ok51 zero52 zeros52 cells52 bytes52 agg52 ok52 zero53 zeros53 cells53 bytes53 agg53 ok53 cells54 bytes54 agg54 ok54 zero55 zeros55 cells55 bytes55 agg55 ok55 cells56 bytes56 agg56 ok56 zero57 zeros57 cells57 bytes57 agg57 ok57 zero58 zeros58 cells58 bytes58 agg58 ok58 zero59 zeros59 cells59 bytes59 agg59 ok59 zero60 zeros60 cells60 bytes60 agg60 ok60 cells61 bytes61 agg61 ok61 zero62 zeros62 cells62 bytes62 agg62 ok62 zero63 zeros63 cells63 bytes63 agg63 ok63 cells64 bytes64 agg64 ok64 zero65 zeros65 cells65 bytes65 agg65 ok65 cells66 bytes66 agg66 ok66 zero67 zeros67 cells67 bytes67 agg67 ok67 zero68 zeros68 cells68 bytes68 agg68 ok68 zero69 zeros69 cells69 bytes69 agg69 ok69 zero70 zeros70 cells70 bytes70 agg70 ok70 zero71 zeros71 cells71 bytes71 agg71 ok71 zero72 zeros72 cells72 bytes72 agg72 ok72 zero73 zeros73 cells73 bytes73 agg73 ok73 zero74 zeros74 cells74 bytes74 agg74 ok74 zero75 zeros75 cells75 bytes75 agg75 ok75 cells76 bytes76 agg76 ok76 zero77 zeros77 cells77 bytes77 agg77 ok77 zero78 zeros78 cells78 bytes78 agg78 ok78 zero79 zeros79 cells79 bytes79 agg79 ok79 zero80 zeros80 cells80 bytes80 agg80 ok80 zero81 zeros81 cells81 bytes81 agg81 ok81 cells82 bytes82 agg82 ok82 zero83 zeros83 cells83 bytes83 agg83 ok83 zero84 zeros84 cells84 bytes84 agg84 ok84 zero85 zeros85 cells85 bytes85 agg85 ok85 zero86 zeros86 cells86 bytes86 agg86 ok86 zero87 zeros87 cells87 bytes87 agg87 ok87 zero88 zeros88 cells88 bytes88 agg88 ok88 zero89 zeros89 cells89 bytes89 agg89 ok89 zero90 zeros90 cells90 bytes90 agg90 ok90 zero91 zeros91 cells91 bytes91 agg91 ok91 zero92 zeros92 cells92 bytes92 agg92 ok92 zero93 zeros93 cells93 bytes93 agg93 ok93 zero94 zeros94 cells94 bytes94 agg94 ok94 zero95 zeros95 cells95 bytes95 agg95 ok95 zero96 zeros96 cells96 bytes96 agg96 ok96 zero97 zeros97 cells97 bytes97 agg97 ok97 zero98 zeros98 cells98 bytes98 agg98 ok98 zero99 zeros99 cells99 bytes99 agg99 ok99 zero100 zeros100 cells100 bytes100 agg100 ok100 zero101 zeros101 cells101 bytes101 agg101 ok101 zero102 zeros102 cells102 bytes102 agg102 ok102 zero103 zeros103 cells103 bytes103 agg103 ok103 cells104 bytes104 agg104 ok104 zero105 zeros105 cells105 bytes105 agg105 ok105 zero106 zeros106 cells106 bytes106 agg106 ok106 zero107 zeros107 cells107 bytes107 agg107 ok107 zero108 zeros108 cells108 bytes108 agg108 ok108 zero109 zeros109 cells109 bytes109 agg109 ok109 zero110 zeros110 cells110 bytes110 agg110 ok110 cells111 bytes111 agg111 ok111 zero112 zeros112 cells112 bytes112 agg112 ok112 zero113 zeros113 cells113 bytes113 agg113 ok113 zero114 zeros114 cells114 bytes114 agg114 ok114 zero115 zeros115 cells115 bytes115 agg115 ok115 cells116 bytes116 agg116 ok116 zero117 zeros117 cells117 bytes117 agg117 ok117 zero118 zeros118 cells118 bytes118 agg118 ok118 cells119 bytes119 agg119 ok119 zero120 zeros120 cells120 bytes120 agg120 ok120 zero121 zeros121 cells121 bytes121 agg121 ok121 zero122 zeros122 cells122 bytes122 agg122 ok122 zero123 zeros123 cells123 bytes123 agg123 ok123 zero124 zeros124 cells124 bytes124 agg124 ok124 zero125 zeros125 cells125 bytes125 agg125 ok125 zero126 zeros126 zero127 zeros127 zero128 zeros128 zero129 zeros129 cells129 bytes129 agg129 ok129 zero130 zeros130 cells130 bytes130 agg130 ok130 zero131 zeros131 cells131 bytes131 agg131 ok131 zero132 zeros132 cells132 bytes132 agg132 ok132 zero133 zeros133 cells133 bytes133 agg133 ok133 zero134 zeros134 cells134 bytes134 agg134 ok134 zero135 zeros135 cells135 bytes135 agg135 ok135 zero136 zeros136 cells136 bytes136 agg136 ok136 zero137 zeros137 cells137 bytes137 agg137 ok137 zero138 zeros138 cells138 bytes138 agg138 ok138 place32 place42 place49 place75 place86 place88 place70 place71 place72 place73
theorem eqT32 : env.eqT 32 = some [.int .i64, .int .i64] := rfl
theorem eqT70 : env.eqT 70 = some [.int .u8, .int .u8, .int .u8, .int .u8] := rfl
theorem eqT73 : env.eqT 73 = some [.int .u8, .int .u8, .int .u8, .int .u8, .int .u8, .int .u8, .int .u8, .int .u8] := rfl
theorem eqT75 : env.eqT 75 = some [.bool, .int .u8, .int .u8, .int .u8, .int .u8, .bool, .int .i64, .bool, .bool, .bool, .bool, .bool, .int .u8, .int .u8, .int .u8, .int .u8, .int .u8, .int .u8, .int .u8, .int .u8, .int .u8, .int .u8, .int .u8, .int .u8, .int .u8, .int .u8, .int .u8, .int .u8, .bool, .int .u8, .int .u8, .int .u8, .int .u8, .int .u8, .int .u8, .int .u8, .int .u8] := rfl
attribute [go_sem] eqT32 eqT70 eqT73 eqT75
theorem eqOk32 : EqOk Try.prog 32 [.int .i64, .int .i64] := eqOk_of (by kernel_rfl) (by kernel_rfl) (by kernel_rfl) (by kernel_rfl)
theorem eqOk70 : EqOk Try.prog 70 [.int .u8, .int .u8, .int .u8, .int .u8] := eqOk_of (by kernel_rfl) (by kernel_rfl) (by kernel_rfl) (by kernel_rfl)
theorem eqOk73 : EqOk Try.prog 73 [.int .u8, .int .u8, .int .u8, .int .u8, .int .u8, .int .u8, .int .u8, .int .u8] := eqOk_of (by kernel_rfl) (by kernel_rfl) (by kernel_rfl) (by kernel_rfl)
theorem eqOk75 : EqOk Try.prog 75 [.bool, .int .u8, .int .u8, .int .u8, .int .u8, .bool, .int .i64, .bool, .bool, .bool, .bool, .bool, .int .u8, .int .u8, .int .u8, .int .u8, .int .u8, .int .u8, .int .u8, .int .u8, .int .u8, .int .u8, .int .u8, .int .u8, .int .u8, .int .u8, .int .u8, .int .u8, .bool, .int .u8, .int .u8, .int .u8, .int .u8, .int .u8, .int .u8, .int .u8, .int .u8] := eqOk_of (by kernel_rfl) (by kernel_rfl) (by kernel_rfl) (by kernel_rfl)
theorem envEq : EnvEq Try.prog env := ⟨fun t ks h => lk_all (lk := lk1) (p := fun t ks => EqOk Try.prog t ks) (fun _ => rfl) (fun _ _ _ _ => rfl) eqT (by intro q hq; simp only [eqT, List.mem_cons, List.not_mem_nil, or_false] at hq; rcases hq with rfl | rfl | rfl | rfl <;> first | exact eqOk32 | exact eqOk70 | exact eqOk73 | exact eqOk75) t ks h⟩
theorem intr80 : IntrOk Try.prog 80 (cloneW 1 1) := intr_clone (P := Try.prog) Try.func80 (t := 25) (bt := 4) (e := 5) rfl rfl rfl Try.underlying25 cells5 bytes5 (by decide) (by decide) (by kernel_rfl) (by decide)
theorem intr103 : IntrOk Try.prog 103 (cloneW 1 1) := intr_clone (P := Try.prog) Try.func103 (t := 25) (bt := 4) (e := 5) rfl rfl rfl Try.underlying25 cells5 bytes5 (by decide) (by decide) (by kernel_rfl) (by decide)
theorem envOk : EnvOk Try.prog env := ⟨envEq, fun g hh h => lk_all (lk := lk1) (p := IntrOk Try.prog) (fun _ => rfl) (fun _ _ _ _ => rfl) intrT (by intro q hq; simp only [intrT, List.mem_cons, List.not_mem_nil, or_false] at hq; rcases hq with rfl | rfl <;> first | exact intr80 | exact intr103) g hh h⟩
theorem envLoc : ∀ g hh, env.intr g = some hh → ∀ args nk, Local fun S => hh args S nk := fun g hh h => lk_all (lk := lk1) (p := fun g hh => ∀ args nk, Local fun S => hh args S nk) (fun _ => rfl) (fun _ _ _ _ => rfl) intrT (by intro q hq; simp only [intrT, List.mem_cons, List.not_mem_nil, or_false] at hq; rcases hq with rfl | rfl <;> exact cloneW_local _ _) g hh h
theorem allFuncs {p : Nat → Func → Bool} (h : ((List.range Try.prog.funcs.size).all fun g => match Try.prog.funcs[g]? with | some fn => p g fn | none => true) = true) (g : Nat) (fn : Func) (hf : Try.prog.funcs[g]? = some fn) : p g fn = true := by
  have h1 := List.all_eq_true.1 h g (List.mem_range.2 (Array.getElem?_eq_some_iff.1 hf).1)
  rw [hf] at h1
  exact h1
theorem envCode : ∀ (g : Nat) fn c, Try.prog.funcs[g]? = some fn → fn.body = some c → codeOk (env.reg g) c = true := by
  intro g fn c hf hb
  have := allFuncs (p := fun g fn => match fn.body with | some c => codeOk (env.reg g) c | none => true) (by kernel_rfl) g fn hf
  rw [hb] at this
  exact this
theorem envName : ∀ (g : Nat) fn, Try.prog.funcs[g]? = some fn → fn.name ≠ "runtime.NumGoroutine" := by
  intro g fn hf
  have := allFuncs (p := fun g fn => decide (fn.name ≠ "runtime.NumGoroutine")) (by kernel_rfl) g fn hf
  simpa using this
theorem envAll : EnvAll Try.prog env := ⟨envOk, envLoc, by kernel_rfl, envCode, envName⟩
theorem own : ownKnob Try.prog.godebug = none := by kernel_rfl
theorem laidOut : laidOutB Try.prog = true := by kernel_rfl
end Go.Proofs.Ytpgklagjjimbhaa
