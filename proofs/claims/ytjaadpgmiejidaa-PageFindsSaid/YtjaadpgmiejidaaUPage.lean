/- The tables of page.Of and of its reference, and what the scans of them find. -/
import Derived.Test.YtjaadpgmiejidaaF
namespace Go.Proofs.YtjaadpgmiejidaaK
set_option linter.unusedVariables false
set_option linter.unusedSimpArgs false
set_option maxRecDepth 100000
set_option maxHeartbeats 4000000
open Go.RowKit
attribute [local irreducible] dwv mops lops lqops lwops kont iter run runK ex E1 vals val chain chB sel resF
/-- The reference's table. -/
def refTab : List spinetref14_Known := [
  ⟨1, 131, ⟨27, 2, 0⟩⟩, ⟨1, 147, ⟨27, 3, 0⟩⟩, ⟨1, 163, ⟨27, 4, 0⟩⟩, ⟨1, 179, ⟨27, 5, 0⟩⟩, ⟨1, 140, ⟨28, 2, 1⟩⟩, ⟨1, 156, ⟨28, 3, 1⟩⟩, ⟨1, 172, ⟨28, 4, 1⟩⟩, ⟨1, 188, ⟨28, 5, 1⟩⟩,
  ⟨1, 142, ⟨24, 2, 1⟩⟩, ⟨1, 158, ⟨24, 3, 1⟩⟩, ⟨1, 174, ⟨24, 4, 1⟩⟩, ⟨1, 190, ⟨24, 5, 1⟩⟩, ⟨1, 159, ⟨25, 3, 1⟩⟩, ⟨1, 175, ⟨25, 4, 1⟩⟩, ⟨1, 191, ⟨25, 5, 1⟩⟩, ⟨1, 195, ⟨26, 2, 0⟩⟩,
  ⟨1, 211, ⟨26, 3, 0⟩⟩, ⟨1, 227, ⟨26, 4, 0⟩⟩, ⟨1, 243, ⟨26, 5, 0⟩⟩, ⟨1, 204, ⟨24, 2, 0⟩⟩, ⟨1, 220, ⟨24, 3, 0⟩⟩, ⟨1, 236, ⟨24, 4, 0⟩⟩, ⟨1, 252, ⟨24, 5, 0⟩⟩, ⟨1, 221, ⟨25, 3, 0⟩⟩,
  ⟨1, 237, ⟨25, 4, 0⟩⟩, ⟨1, 253, ⟨25, 5, 0⟩⟩, ⟨1, 206, ⟨24, 2, 3⟩⟩, ⟨1, 222, ⟨24, 3, 3⟩⟩, ⟨1, 238, ⟨24, 4, 3⟩⟩, ⟨1, 254, ⟨24, 5, 3⟩⟩, ⟨1, 223, ⟨25, 3, 3⟩⟩, ⟨1, 239, ⟨25, 4, 3⟩⟩,
  ⟨1, 255, ⟨25, 5, 3⟩⟩, ⟨1, 157, ⟨33, 3, 0⟩⟩, ⟨1, 173, ⟨33, 4, 0⟩⟩, ⟨1, 189, ⟨33, 5, 0⟩⟩, ⟨2, 131, ⟨28, 2, 0⟩⟩, ⟨2, 147, ⟨28, 3, 0⟩⟩, ⟨2, 163, ⟨28, 4, 0⟩⟩, ⟨2, 179, ⟨28, 5, 0⟩⟩,
  ⟨2, 140, ⟨28, 2, 2⟩⟩, ⟨2, 156, ⟨28, 3, 2⟩⟩, ⟨2, 172, ⟨28, 4, 2⟩⟩, ⟨2, 188, ⟨28, 5, 2⟩⟩, ⟨2, 142, ⟨24, 2, 2⟩⟩, ⟨2, 158, ⟨24, 3, 2⟩⟩, ⟨2, 174, ⟨24, 4, 2⟩⟩, ⟨2, 190, ⟨24, 5, 2⟩⟩,
  ⟨2, 159, ⟨25, 3, 2⟩⟩, ⟨2, 175, ⟨25, 4, 2⟩⟩, ⟨2, 191, ⟨25, 5, 2⟩⟩, ⟨2, 206, ⟨24, 2, 4⟩⟩, ⟨2, 222, ⟨24, 3, 4⟩⟩, ⟨2, 238, ⟨24, 4, 4⟩⟩, ⟨2, 254, ⟨24, 5, 4⟩⟩, ⟨2, 223, ⟨25, 3, 4⟩⟩,
  ⟨2, 239, ⟨25, 4, 4⟩⟩, ⟨2, 255, ⟨25, 5, 4⟩⟩, ⟨3, 131, ⟨28, 2, 3⟩⟩, ⟨3, 147, ⟨28, 3, 3⟩⟩, ⟨3, 163, ⟨28, 4, 3⟩⟩, ⟨3, 179, ⟨28, 5, 3⟩⟩, ⟨3, 140, ⟨28, 2, 4⟩⟩, ⟨3, 156, ⟨28, 3, 4⟩⟩,
  ⟨3, 172, ⟨28, 4, 4⟩⟩, ⟨3, 188, ⟨28, 5, 4⟩⟩, ⟨1, 128, ⟨10, 1, 8⟩⟩, ⟨1, 144, ⟨10, 3, 8⟩⟩, ⟨1, 160, ⟨10, 4, 8⟩⟩, ⟨1, 176, ⟨10, 5, 8⟩⟩, ⟨1, 192, ⟨10, 1, 9⟩⟩, ⟨1, 208, ⟨10, 3, 9⟩⟩,
  ⟨1, 224, ⟨10, 4, 9⟩⟩, ⟨1, 240, ⟨10, 5, 9⟩⟩, ⟨1, 129, ⟨6, 1, 8⟩⟩, ⟨1, 145, ⟨6, 3, 8⟩⟩, ⟨1, 161, ⟨6, 4, 8⟩⟩, ⟨1, 177, ⟨6, 5, 8⟩⟩, ⟨1, 193, ⟨6, 1, 9⟩⟩, ⟨1, 209, ⟨6, 3, 9⟩⟩,
  ⟨1, 225, ⟨6, 4, 9⟩⟩, ⟨1, 241, ⟨6, 5, 9⟩⟩, ⟨1, 130, ⟨9, 1, 8⟩⟩, ⟨1, 146, ⟨9, 3, 8⟩⟩, ⟨1, 162, ⟨9, 4, 8⟩⟩, ⟨1, 178, ⟨9, 5, 8⟩⟩, ⟨1, 194, ⟨9, 1, 9⟩⟩, ⟨1, 210, ⟨9, 3, 9⟩⟩,
  ⟨1, 226, ⟨9, 4, 9⟩⟩, ⟨1, 242, ⟨9, 5, 9⟩⟩, ⟨1, 132, ⟨4, 1, 8⟩⟩, ⟨1, 148, ⟨4, 3, 8⟩⟩, ⟨1, 164, ⟨4, 4, 8⟩⟩, ⟨1, 180, ⟨4, 5, 8⟩⟩, ⟨1, 196, ⟨4, 1, 9⟩⟩, ⟨1, 212, ⟨4, 3, 9⟩⟩,
  ⟨1, 228, ⟨4, 4, 9⟩⟩, ⟨1, 244, ⟨4, 5, 9⟩⟩, ⟨1, 133, ⟨5, 1, 8⟩⟩, ⟨1, 149, ⟨5, 3, 8⟩⟩, ⟨1, 165, ⟨5, 4, 8⟩⟩, ⟨1, 181, ⟨5, 5, 8⟩⟩, ⟨1, 197, ⟨5, 1, 9⟩⟩, ⟨1, 213, ⟨5, 3, 9⟩⟩,
  ⟨1, 229, ⟨5, 4, 9⟩⟩, ⟨1, 245, ⟨5, 5, 9⟩⟩, ⟨1, 134, ⟨11, 1, 8⟩⟩, ⟨1, 150, ⟨11, 3, 8⟩⟩, ⟨1, 166, ⟨11, 4, 8⟩⟩, ⟨1, 182, ⟨11, 5, 8⟩⟩, ⟨1, 198, ⟨11, 1, 9⟩⟩, ⟨1, 214, ⟨11, 3, 9⟩⟩,
  ⟨1, 230, ⟨11, 4, 9⟩⟩, ⟨1, 246, ⟨11, 5, 9⟩⟩, ⟨1, 151, ⟨12, 3, 8⟩⟩, ⟨1, 167, ⟨12, 4, 8⟩⟩, ⟨1, 183, ⟨12, 5, 8⟩⟩, ⟨1, 215, ⟨12, 3, 9⟩⟩, ⟨1, 231, ⟨12, 4, 9⟩⟩, ⟨1, 247, ⟨12, 5, 9⟩⟩,
  ⟨1, 136, ⟨7, 1, 8⟩⟩, ⟨1, 152, ⟨7, 3, 8⟩⟩, ⟨1, 168, ⟨7, 4, 8⟩⟩, ⟨1, 184, ⟨7, 5, 8⟩⟩, ⟨1, 200, ⟨7, 1, 9⟩⟩, ⟨1, 216, ⟨7, 3, 9⟩⟩, ⟨1, 232, ⟨7, 4, 9⟩⟩, ⟨1, 248, ⟨7, 5, 9⟩⟩,
  ⟨1, 137, ⟨2, 1, 8⟩⟩, ⟨1, 153, ⟨2, 3, 8⟩⟩, ⟨1, 169, ⟨2, 4, 8⟩⟩, ⟨1, 185, ⟨2, 5, 8⟩⟩, ⟨1, 201, ⟨2, 1, 9⟩⟩, ⟨1, 217, ⟨2, 3, 9⟩⟩, ⟨1, 233, ⟨2, 4, 9⟩⟩, ⟨1, 249, ⟨2, 5, 9⟩⟩,
  ⟨1, 138, ⟨8, 1, 8⟩⟩, ⟨1, 154, ⟨8, 3, 8⟩⟩, ⟨1, 170, ⟨8, 4, 8⟩⟩, ⟨1, 186, ⟨8, 5, 8⟩⟩, ⟨1, 202, ⟨8, 1, 9⟩⟩, ⟨1, 218, ⟨8, 3, 9⟩⟩, ⟨1, 234, ⟨8, 4, 9⟩⟩, ⟨1, 250, ⟨8, 5, 9⟩⟩,
  ⟨1, 139, ⟨3, 1, 8⟩⟩, ⟨1, 155, ⟨3, 3, 8⟩⟩, ⟨1, 171, ⟨3, 4, 8⟩⟩, ⟨1, 187, ⟨3, 5, 8⟩⟩, ⟨1, 203, ⟨3, 1, 9⟩⟩, ⟨1, 219, ⟨3, 3, 9⟩⟩, ⟨1, 235, ⟨3, 4, 9⟩⟩, ⟨1, 251, ⟨3, 5, 9⟩⟩,
  ⟨1, 0, ⟨13, 3, 0⟩⟩, ⟨1, 96, ⟨13, 4, 0⟩⟩, ⟨1, 112, ⟨13, 5, 0⟩⟩, ⟨1, 64, ⟨13, 0, 8⟩⟩, ⟨1, 80, ⟨13, 0, 9⟩⟩, ⟨1, 3, ⟨14, 3, 0⟩⟩, ⟨1, 99, ⟨14, 4, 0⟩⟩, ⟨1, 115, ⟨14, 5, 0⟩⟩,
  ⟨1, 67, ⟨14, 0, 8⟩⟩, ⟨1, 83, ⟨14, 0, 9⟩⟩, ⟨1, 4, ⟨15, 3, 0⟩⟩, ⟨1, 100, ⟨15, 4, 0⟩⟩, ⟨1, 116, ⟨15, 5, 0⟩⟩, ⟨1, 68, ⟨15, 0, 8⟩⟩, ⟨1, 84, ⟨15, 0, 9⟩⟩, ⟨1, 6, ⟨16, 3, 0⟩⟩,
  ⟨1, 102, ⟨16, 4, 0⟩⟩, ⟨1, 118, ⟨16, 5, 0⟩⟩, ⟨1, 70, ⟨16, 0, 8⟩⟩, ⟨1, 86, ⟨16, 0, 9⟩⟩, ⟨1, 7, ⟨17, 3, 0⟩⟩, ⟨1, 103, ⟨17, 4, 0⟩⟩, ⟨1, 119, ⟨17, 5, 0⟩⟩, ⟨1, 71, ⟨17, 0, 8⟩⟩,
  ⟨1, 87, ⟨17, 0, 9⟩⟩, ⟨1, 8, ⟨18, 3, 0⟩⟩, ⟨1, 104, ⟨18, 4, 0⟩⟩, ⟨1, 120, ⟨18, 5, 0⟩⟩, ⟨1, 72, ⟨18, 0, 8⟩⟩, ⟨1, 88, ⟨18, 0, 9⟩⟩, ⟨1, 9, ⟨19, 3, 0⟩⟩, ⟨1, 105, ⟨19, 4, 0⟩⟩,
  ⟨1, 121, ⟨19, 5, 0⟩⟩, ⟨1, 73, ⟨19, 0, 8⟩⟩, ⟨1, 89, ⟨19, 0, 9⟩⟩, ⟨1, 10, ⟨20, 3, 0⟩⟩, ⟨1, 106, ⟨20, 4, 0⟩⟩, ⟨1, 122, ⟨20, 5, 0⟩⟩, ⟨1, 74, ⟨20, 0, 8⟩⟩, ⟨1, 90, ⟨20, 0, 9⟩⟩,
  ⟨1, 12, ⟨21, 3, 0⟩⟩, ⟨1, 108, ⟨21, 4, 0⟩⟩, ⟨1, 124, ⟨21, 5, 0⟩⟩, ⟨1, 76, ⟨21, 0, 8⟩⟩, ⟨1, 92, ⟨21, 0, 9⟩⟩, ⟨1, 13, ⟨22, 3, 0⟩⟩, ⟨1, 109, ⟨22, 4, 0⟩⟩, ⟨1, 125, ⟨22, 5, 0⟩⟩,
  ⟨1, 77, ⟨22, 0, 8⟩⟩, ⟨1, 93, ⟨22, 0, 9⟩⟩, ⟨1, 15, ⟨23, 3, 0⟩⟩, ⟨1, 111, ⟨23, 4, 0⟩⟩, ⟨1, 127, ⟨23, 5, 0⟩⟩, ⟨1, 79, ⟨23, 0, 8⟩⟩, ⟨1, 95, ⟨23, 0, 9⟩⟩, ⟨1, 14, ⟨32, 3, 0⟩⟩,
  ⟨1, 110, ⟨32, 4, 0⟩⟩, ⟨1, 126, ⟨32, 5, 0⟩⟩, ⟨1, 32, ⟨34, 6, 0⟩⟩, ⟨1, 33, ⟨34, 6, 1⟩⟩, ⟨2, 33, ⟨35, 7, 1⟩⟩, ⟨1, 34, ⟨34, 6, 2⟩⟩, ⟨2, 34, ⟨35, 7, 2⟩⟩, ⟨1, 35, ⟨34, 6, 3⟩⟩,
  ⟨2, 35, ⟨35, 7, 3⟩⟩, ⟨1, 36, ⟨34, 6, 4⟩⟩, ⟨2, 36, ⟨35, 7, 4⟩⟩, ⟨1, 37, ⟨34, 6, 5⟩⟩, ⟨2, 37, ⟨35, 7, 5⟩⟩, ⟨1, 38, ⟨34, 6, 6⟩⟩, ⟨2, 38, ⟨35, 7, 6⟩⟩, ⟨1, 39, ⟨34, 6, 7⟩⟩,
  ⟨2, 39, ⟨35, 7, 7⟩⟩, ⟨1, 40, ⟨34, 6, 8⟩⟩, ⟨2, 40, ⟨35, 7, 8⟩⟩, ⟨1, 41, ⟨34, 6, 9⟩⟩, ⟨2, 41, ⟨35, 7, 9⟩⟩, ⟨1, 42, ⟨34, 6, 10⟩⟩, ⟨2, 42, ⟨35, 7, 10⟩⟩, ⟨1, 43, ⟨34, 6, 11⟩⟩,
  ⟨2, 43, ⟨35, 7, 11⟩⟩, ⟨1, 44, ⟨34, 6, 12⟩⟩, ⟨2, 44, ⟨35, 7, 12⟩⟩, ⟨1, 45, ⟨34, 6, 13⟩⟩, ⟨2, 45, ⟨35, 7, 13⟩⟩, ⟨1, 46, ⟨34, 6, 14⟩⟩, ⟨2, 46, ⟨35, 7, 14⟩⟩, ⟨1, 47, ⟨34, 6, 15⟩⟩,
  ⟨2, 47, ⟨35, 7, 15⟩⟩, ⟨1, 18, ⟨39, 0, 0⟩⟩, ⟨1, 19, ⟨40, 0, 0⟩⟩, ⟨1, 25, ⟨42, 0, 0⟩⟩, ⟨1, 29, ⟨45, 0, 0⟩⟩, ⟨1, 57, ⟨48, 0, 0⟩⟩, ⟨1, 58, ⟨1, 0, 0⟩⟩, ⟨1, 59, ⟨49, 0, 0⟩⟩,
  ⟨1, 61, ⟨50, 0, 0⟩⟩, ⟨1, 63, ⟨51, 0, 1⟩⟩, ⟨2, 63, ⟨51, 0, 2⟩⟩, ⟨3, 63, ⟨51, 0, 3⟩⟩, ⟨1, 26, ⟨43, 1, 0⟩⟩, ⟨1, 28, ⟨44, 1, 0⟩⟩, ⟨1, 60, ⟨41, 1, 0⟩⟩, ⟨1, 30, ⟨46, 8, 0⟩⟩,
  ⟨1, 31, ⟨47, 8, 0⟩⟩, ⟨1, 52, ⟨30, 9, 4⟩⟩, ⟨1, 53, ⟨31, 9, 4⟩⟩, ⟨1, 54, ⟨30, 9, 3⟩⟩, ⟨1, 55, ⟨31, 9, 3⟩⟩, ⟨1, 48, ⟨29, 4, 1⟩⟩, ⟨1, 49, ⟨29, 4, 2⟩⟩, ⟨1, 50, ⟨29, 4, 4⟩⟩,
  ⟨1, 51, ⟨29, 4, 3⟩⟩, ⟨1, 141, ⟨37, 6, 0⟩⟩, ⟨1, 22, ⟨36, 7, 0⟩⟩, ⟨1, 23, ⟨38, 7, 0⟩⟩]
/-- The codes of page 1. -/
def pageTab1 : List api_Entry := [
  ⟨13, 3, 0⟩, ⟨0, 0, 0⟩, ⟨0, 0, 0⟩, ⟨14, 3, 0⟩, ⟨15, 3, 0⟩, ⟨0, 0, 0⟩, ⟨16, 3, 0⟩, ⟨17, 3, 0⟩, ⟨18, 3, 0⟩, ⟨19, 3, 0⟩, ⟨20, 3, 0⟩, ⟨0, 0, 0⟩,
  ⟨21, 3, 0⟩, ⟨22, 3, 0⟩, ⟨32, 3, 0⟩, ⟨23, 3, 0⟩, ⟨0, 0, 0⟩, ⟨0, 0, 0⟩, ⟨39, 0, 0⟩, ⟨40, 0, 0⟩, ⟨0, 0, 0⟩, ⟨0, 0, 0⟩, ⟨36, 7, 0⟩, ⟨38, 7, 0⟩,
  ⟨0, 0, 0⟩, ⟨42, 0, 0⟩, ⟨43, 1, 0⟩, ⟨0, 0, 0⟩, ⟨44, 1, 0⟩, ⟨45, 0, 0⟩, ⟨46, 8, 0⟩, ⟨47, 8, 0⟩, ⟨34, 6, 0⟩, ⟨34, 6, 1⟩, ⟨34, 6, 2⟩, ⟨34, 6, 3⟩,
  ⟨34, 6, 4⟩, ⟨34, 6, 5⟩, ⟨34, 6, 6⟩, ⟨34, 6, 7⟩, ⟨34, 6, 8⟩, ⟨34, 6, 9⟩, ⟨34, 6, 10⟩, ⟨34, 6, 11⟩, ⟨34, 6, 12⟩, ⟨34, 6, 13⟩, ⟨34, 6, 14⟩, ⟨34, 6, 15⟩,
  ⟨29, 4, 1⟩, ⟨29, 4, 2⟩, ⟨29, 4, 4⟩, ⟨29, 4, 3⟩, ⟨30, 9, 4⟩, ⟨31, 9, 4⟩, ⟨30, 9, 3⟩, ⟨31, 9, 3⟩, ⟨0, 0, 0⟩, ⟨48, 0, 0⟩, ⟨1, 0, 0⟩, ⟨49, 0, 0⟩,
  ⟨41, 1, 0⟩, ⟨50, 0, 0⟩, ⟨0, 0, 0⟩, ⟨51, 0, 1⟩, ⟨13, 0, 8⟩, ⟨0, 0, 0⟩, ⟨0, 0, 0⟩, ⟨14, 0, 8⟩, ⟨15, 0, 8⟩, ⟨0, 0, 0⟩, ⟨16, 0, 8⟩, ⟨17, 0, 8⟩,
  ⟨18, 0, 8⟩, ⟨19, 0, 8⟩, ⟨20, 0, 8⟩, ⟨0, 0, 0⟩, ⟨21, 0, 8⟩, ⟨22, 0, 8⟩, ⟨0, 0, 0⟩, ⟨23, 0, 8⟩, ⟨13, 0, 9⟩, ⟨0, 0, 0⟩, ⟨0, 0, 0⟩, ⟨14, 0, 9⟩,
  ⟨15, 0, 9⟩, ⟨0, 0, 0⟩, ⟨16, 0, 9⟩, ⟨17, 0, 9⟩, ⟨18, 0, 9⟩, ⟨19, 0, 9⟩, ⟨20, 0, 9⟩, ⟨0, 0, 0⟩, ⟨21, 0, 9⟩, ⟨22, 0, 9⟩, ⟨0, 0, 0⟩, ⟨23, 0, 9⟩,
  ⟨13, 4, 0⟩, ⟨0, 0, 0⟩, ⟨0, 0, 0⟩, ⟨14, 4, 0⟩, ⟨15, 4, 0⟩, ⟨0, 0, 0⟩, ⟨16, 4, 0⟩, ⟨17, 4, 0⟩, ⟨18, 4, 0⟩, ⟨19, 4, 0⟩, ⟨20, 4, 0⟩, ⟨0, 0, 0⟩,
  ⟨21, 4, 0⟩, ⟨22, 4, 0⟩, ⟨32, 4, 0⟩, ⟨23, 4, 0⟩, ⟨13, 5, 0⟩, ⟨0, 0, 0⟩, ⟨0, 0, 0⟩, ⟨14, 5, 0⟩, ⟨15, 5, 0⟩, ⟨0, 0, 0⟩, ⟨16, 5, 0⟩, ⟨17, 5, 0⟩,
  ⟨18, 5, 0⟩, ⟨19, 5, 0⟩, ⟨20, 5, 0⟩, ⟨0, 0, 0⟩, ⟨21, 5, 0⟩, ⟨22, 5, 0⟩, ⟨32, 5, 0⟩, ⟨23, 5, 0⟩, ⟨10, 1, 8⟩, ⟨6, 1, 8⟩, ⟨9, 1, 8⟩, ⟨27, 2, 0⟩,
  ⟨4, 1, 8⟩, ⟨5, 1, 8⟩, ⟨11, 1, 8⟩, ⟨0, 0, 0⟩, ⟨7, 1, 8⟩, ⟨2, 1, 8⟩, ⟨8, 1, 8⟩, ⟨3, 1, 8⟩, ⟨28, 2, 1⟩, ⟨37, 6, 0⟩, ⟨24, 2, 1⟩, ⟨0, 0, 0⟩,
  ⟨10, 3, 8⟩, ⟨6, 3, 8⟩, ⟨9, 3, 8⟩, ⟨27, 3, 0⟩, ⟨4, 3, 8⟩, ⟨5, 3, 8⟩, ⟨11, 3, 8⟩, ⟨12, 3, 8⟩, ⟨7, 3, 8⟩, ⟨2, 3, 8⟩, ⟨8, 3, 8⟩, ⟨3, 3, 8⟩,
  ⟨28, 3, 1⟩, ⟨33, 3, 0⟩, ⟨24, 3, 1⟩, ⟨25, 3, 1⟩, ⟨10, 4, 8⟩, ⟨6, 4, 8⟩, ⟨9, 4, 8⟩, ⟨27, 4, 0⟩, ⟨4, 4, 8⟩, ⟨5, 4, 8⟩, ⟨11, 4, 8⟩, ⟨12, 4, 8⟩,
  ⟨7, 4, 8⟩, ⟨2, 4, 8⟩, ⟨8, 4, 8⟩, ⟨3, 4, 8⟩, ⟨28, 4, 1⟩, ⟨33, 4, 0⟩, ⟨24, 4, 1⟩, ⟨25, 4, 1⟩, ⟨10, 5, 8⟩, ⟨6, 5, 8⟩, ⟨9, 5, 8⟩, ⟨27, 5, 0⟩,
  ⟨4, 5, 8⟩, ⟨5, 5, 8⟩, ⟨11, 5, 8⟩, ⟨12, 5, 8⟩, ⟨7, 5, 8⟩, ⟨2, 5, 8⟩, ⟨8, 5, 8⟩, ⟨3, 5, 8⟩, ⟨28, 5, 1⟩, ⟨33, 5, 0⟩, ⟨24, 5, 1⟩, ⟨25, 5, 1⟩,
  ⟨10, 1, 9⟩, ⟨6, 1, 9⟩, ⟨9, 1, 9⟩, ⟨26, 2, 0⟩, ⟨4, 1, 9⟩, ⟨5, 1, 9⟩, ⟨11, 1, 9⟩, ⟨0, 0, 0⟩, ⟨7, 1, 9⟩, ⟨2, 1, 9⟩, ⟨8, 1, 9⟩, ⟨3, 1, 9⟩,
  ⟨24, 2, 0⟩, ⟨0, 0, 0⟩, ⟨24, 2, 3⟩, ⟨0, 0, 0⟩, ⟨10, 3, 9⟩, ⟨6, 3, 9⟩, ⟨9, 3, 9⟩, ⟨26, 3, 0⟩, ⟨4, 3, 9⟩, ⟨5, 3, 9⟩, ⟨11, 3, 9⟩, ⟨12, 3, 9⟩,
  ⟨7, 3, 9⟩, ⟨2, 3, 9⟩, ⟨8, 3, 9⟩, ⟨3, 3, 9⟩, ⟨24, 3, 0⟩, ⟨25, 3, 0⟩, ⟨24, 3, 3⟩, ⟨25, 3, 3⟩, ⟨10, 4, 9⟩, ⟨6, 4, 9⟩, ⟨9, 4, 9⟩, ⟨26, 4, 0⟩,
  ⟨4, 4, 9⟩, ⟨5, 4, 9⟩, ⟨11, 4, 9⟩, ⟨12, 4, 9⟩, ⟨7, 4, 9⟩, ⟨2, 4, 9⟩, ⟨8, 4, 9⟩, ⟨3, 4, 9⟩, ⟨24, 4, 0⟩, ⟨25, 4, 0⟩, ⟨24, 4, 3⟩, ⟨25, 4, 3⟩,
  ⟨10, 5, 9⟩, ⟨6, 5, 9⟩, ⟨9, 5, 9⟩, ⟨26, 5, 0⟩, ⟨4, 5, 9⟩, ⟨5, 5, 9⟩, ⟨11, 5, 9⟩, ⟨12, 5, 9⟩, ⟨7, 5, 9⟩, ⟨2, 5, 9⟩, ⟨8, 5, 9⟩, ⟨3, 5, 9⟩,
  ⟨24, 5, 0⟩, ⟨25, 5, 0⟩, ⟨24, 5, 3⟩, ⟨25, 5, 3⟩]
/-- The codes of page 2. -/
def pageTab2 : List api_Entry := [
  ⟨0, 0, 0⟩, ⟨0, 0, 0⟩, ⟨0, 0, 0⟩, ⟨0, 0, 0⟩, ⟨0, 0, 0⟩, ⟨0, 0, 0⟩, ⟨0, 0, 0⟩, ⟨0, 0, 0⟩, ⟨0, 0, 0⟩, ⟨0, 0, 0⟩, ⟨0, 0, 0⟩, ⟨0, 0, 0⟩,
  ⟨0, 0, 0⟩, ⟨0, 0, 0⟩, ⟨0, 0, 0⟩, ⟨0, 0, 0⟩, ⟨0, 0, 0⟩, ⟨0, 0, 0⟩, ⟨0, 0, 0⟩, ⟨0, 0, 0⟩, ⟨0, 0, 0⟩, ⟨0, 0, 0⟩, ⟨0, 0, 0⟩, ⟨0, 0, 0⟩,
  ⟨0, 0, 0⟩, ⟨0, 0, 0⟩, ⟨0, 0, 0⟩, ⟨0, 0, 0⟩, ⟨0, 0, 0⟩, ⟨0, 0, 0⟩, ⟨0, 0, 0⟩, ⟨0, 0, 0⟩, ⟨0, 0, 0⟩, ⟨35, 7, 1⟩, ⟨35, 7, 2⟩, ⟨35, 7, 3⟩,
  ⟨35, 7, 4⟩, ⟨35, 7, 5⟩, ⟨35, 7, 6⟩, ⟨35, 7, 7⟩, ⟨35, 7, 8⟩, ⟨35, 7, 9⟩, ⟨35, 7, 10⟩, ⟨35, 7, 11⟩, ⟨35, 7, 12⟩, ⟨35, 7, 13⟩, ⟨35, 7, 14⟩, ⟨35, 7, 15⟩,
  ⟨0, 0, 0⟩, ⟨0, 0, 0⟩, ⟨0, 0, 0⟩, ⟨0, 0, 0⟩, ⟨0, 0, 0⟩, ⟨0, 0, 0⟩, ⟨0, 0, 0⟩, ⟨0, 0, 0⟩, ⟨0, 0, 0⟩, ⟨0, 0, 0⟩, ⟨0, 0, 0⟩, ⟨0, 0, 0⟩,
  ⟨0, 0, 0⟩, ⟨0, 0, 0⟩, ⟨0, 0, 0⟩, ⟨51, 0, 2⟩, ⟨0, 0, 0⟩, ⟨0, 0, 0⟩, ⟨0, 0, 0⟩, ⟨0, 0, 0⟩, ⟨0, 0, 0⟩, ⟨0, 0, 0⟩, ⟨0, 0, 0⟩, ⟨0, 0, 0⟩,
  ⟨0, 0, 0⟩, ⟨0, 0, 0⟩, ⟨0, 0, 0⟩, ⟨0, 0, 0⟩, ⟨0, 0, 0⟩, ⟨0, 0, 0⟩, ⟨0, 0, 0⟩, ⟨0, 0, 0⟩, ⟨0, 0, 0⟩, ⟨0, 0, 0⟩, ⟨0, 0, 0⟩, ⟨0, 0, 0⟩,
  ⟨0, 0, 0⟩, ⟨0, 0, 0⟩, ⟨0, 0, 0⟩, ⟨0, 0, 0⟩, ⟨0, 0, 0⟩, ⟨0, 0, 0⟩, ⟨0, 0, 0⟩, ⟨0, 0, 0⟩, ⟨0, 0, 0⟩, ⟨0, 0, 0⟩, ⟨0, 0, 0⟩, ⟨0, 0, 0⟩,
  ⟨0, 0, 0⟩, ⟨0, 0, 0⟩, ⟨0, 0, 0⟩, ⟨0, 0, 0⟩, ⟨0, 0, 0⟩, ⟨0, 0, 0⟩, ⟨0, 0, 0⟩, ⟨0, 0, 0⟩, ⟨0, 0, 0⟩, ⟨0, 0, 0⟩, ⟨0, 0, 0⟩, ⟨0, 0, 0⟩,
  ⟨0, 0, 0⟩, ⟨0, 0, 0⟩, ⟨0, 0, 0⟩, ⟨0, 0, 0⟩, ⟨0, 0, 0⟩, ⟨0, 0, 0⟩, ⟨0, 0, 0⟩, ⟨0, 0, 0⟩, ⟨0, 0, 0⟩, ⟨0, 0, 0⟩, ⟨0, 0, 0⟩, ⟨0, 0, 0⟩,
  ⟨0, 0, 0⟩, ⟨0, 0, 0⟩, ⟨0, 0, 0⟩, ⟨0, 0, 0⟩, ⟨0, 0, 0⟩, ⟨0, 0, 0⟩, ⟨0, 0, 0⟩, ⟨0, 0, 0⟩, ⟨0, 0, 0⟩, ⟨0, 0, 0⟩, ⟨0, 0, 0⟩, ⟨28, 2, 0⟩,
  ⟨0, 0, 0⟩, ⟨0, 0, 0⟩, ⟨0, 0, 0⟩, ⟨0, 0, 0⟩, ⟨0, 0, 0⟩, ⟨0, 0, 0⟩, ⟨0, 0, 0⟩, ⟨0, 0, 0⟩, ⟨28, 2, 2⟩, ⟨0, 0, 0⟩, ⟨24, 2, 2⟩, ⟨0, 0, 0⟩,
  ⟨0, 0, 0⟩, ⟨0, 0, 0⟩, ⟨0, 0, 0⟩, ⟨28, 3, 0⟩, ⟨0, 0, 0⟩, ⟨0, 0, 0⟩, ⟨0, 0, 0⟩, ⟨0, 0, 0⟩, ⟨0, 0, 0⟩, ⟨0, 0, 0⟩, ⟨0, 0, 0⟩, ⟨0, 0, 0⟩,
  ⟨28, 3, 2⟩, ⟨0, 0, 0⟩, ⟨24, 3, 2⟩, ⟨25, 3, 2⟩, ⟨0, 0, 0⟩, ⟨0, 0, 0⟩, ⟨0, 0, 0⟩, ⟨28, 4, 0⟩, ⟨0, 0, 0⟩, ⟨0, 0, 0⟩, ⟨0, 0, 0⟩, ⟨0, 0, 0⟩,
  ⟨0, 0, 0⟩, ⟨0, 0, 0⟩, ⟨0, 0, 0⟩, ⟨0, 0, 0⟩, ⟨28, 4, 2⟩, ⟨0, 0, 0⟩, ⟨24, 4, 2⟩, ⟨25, 4, 2⟩, ⟨0, 0, 0⟩, ⟨0, 0, 0⟩, ⟨0, 0, 0⟩, ⟨28, 5, 0⟩,
  ⟨0, 0, 0⟩, ⟨0, 0, 0⟩, ⟨0, 0, 0⟩, ⟨0, 0, 0⟩, ⟨0, 0, 0⟩, ⟨0, 0, 0⟩, ⟨0, 0, 0⟩, ⟨0, 0, 0⟩, ⟨28, 5, 2⟩, ⟨0, 0, 0⟩, ⟨24, 5, 2⟩, ⟨25, 5, 2⟩,
  ⟨0, 0, 0⟩, ⟨0, 0, 0⟩, ⟨0, 0, 0⟩, ⟨0, 0, 0⟩, ⟨0, 0, 0⟩, ⟨0, 0, 0⟩, ⟨0, 0, 0⟩, ⟨0, 0, 0⟩, ⟨0, 0, 0⟩, ⟨0, 0, 0⟩, ⟨0, 0, 0⟩, ⟨0, 0, 0⟩,
  ⟨0, 0, 0⟩, ⟨0, 0, 0⟩, ⟨24, 2, 4⟩, ⟨0, 0, 0⟩, ⟨0, 0, 0⟩, ⟨0, 0, 0⟩, ⟨0, 0, 0⟩, ⟨0, 0, 0⟩, ⟨0, 0, 0⟩, ⟨0, 0, 0⟩, ⟨0, 0, 0⟩, ⟨0, 0, 0⟩,
  ⟨0, 0, 0⟩, ⟨0, 0, 0⟩, ⟨0, 0, 0⟩, ⟨0, 0, 0⟩, ⟨0, 0, 0⟩, ⟨0, 0, 0⟩, ⟨24, 3, 4⟩, ⟨25, 3, 4⟩, ⟨0, 0, 0⟩, ⟨0, 0, 0⟩, ⟨0, 0, 0⟩, ⟨0, 0, 0⟩,
  ⟨0, 0, 0⟩, ⟨0, 0, 0⟩, ⟨0, 0, 0⟩, ⟨0, 0, 0⟩, ⟨0, 0, 0⟩, ⟨0, 0, 0⟩, ⟨0, 0, 0⟩, ⟨0, 0, 0⟩, ⟨0, 0, 0⟩, ⟨0, 0, 0⟩, ⟨24, 4, 4⟩, ⟨25, 4, 4⟩,
  ⟨0, 0, 0⟩, ⟨0, 0, 0⟩, ⟨0, 0, 0⟩, ⟨0, 0, 0⟩, ⟨0, 0, 0⟩, ⟨0, 0, 0⟩, ⟨0, 0, 0⟩, ⟨0, 0, 0⟩, ⟨0, 0, 0⟩, ⟨0, 0, 0⟩, ⟨0, 0, 0⟩, ⟨0, 0, 0⟩,
  ⟨0, 0, 0⟩, ⟨0, 0, 0⟩, ⟨24, 5, 4⟩, ⟨25, 5, 4⟩]
/-- The codes of page 3. -/
def pageTab3 : List api_Entry := [
  ⟨0, 0, 0⟩, ⟨0, 0, 0⟩, ⟨0, 0, 0⟩, ⟨0, 0, 0⟩, ⟨0, 0, 0⟩, ⟨0, 0, 0⟩, ⟨0, 0, 0⟩, ⟨0, 0, 0⟩, ⟨0, 0, 0⟩, ⟨0, 0, 0⟩, ⟨0, 0, 0⟩, ⟨0, 0, 0⟩,
  ⟨0, 0, 0⟩, ⟨0, 0, 0⟩, ⟨0, 0, 0⟩, ⟨0, 0, 0⟩, ⟨0, 0, 0⟩, ⟨0, 0, 0⟩, ⟨0, 0, 0⟩, ⟨0, 0, 0⟩, ⟨0, 0, 0⟩, ⟨0, 0, 0⟩, ⟨0, 0, 0⟩, ⟨0, 0, 0⟩,
  ⟨0, 0, 0⟩, ⟨0, 0, 0⟩, ⟨0, 0, 0⟩, ⟨0, 0, 0⟩, ⟨0, 0, 0⟩, ⟨0, 0, 0⟩, ⟨0, 0, 0⟩, ⟨0, 0, 0⟩, ⟨0, 0, 0⟩, ⟨0, 0, 0⟩, ⟨0, 0, 0⟩, ⟨0, 0, 0⟩,
  ⟨0, 0, 0⟩, ⟨0, 0, 0⟩, ⟨0, 0, 0⟩, ⟨0, 0, 0⟩, ⟨0, 0, 0⟩, ⟨0, 0, 0⟩, ⟨0, 0, 0⟩, ⟨0, 0, 0⟩, ⟨0, 0, 0⟩, ⟨0, 0, 0⟩, ⟨0, 0, 0⟩, ⟨0, 0, 0⟩,
  ⟨0, 0, 0⟩, ⟨0, 0, 0⟩, ⟨0, 0, 0⟩, ⟨0, 0, 0⟩, ⟨0, 0, 0⟩, ⟨0, 0, 0⟩, ⟨0, 0, 0⟩, ⟨0, 0, 0⟩, ⟨0, 0, 0⟩, ⟨0, 0, 0⟩, ⟨0, 0, 0⟩, ⟨0, 0, 0⟩,
  ⟨0, 0, 0⟩, ⟨0, 0, 0⟩, ⟨0, 0, 0⟩, ⟨51, 0, 3⟩, ⟨0, 0, 0⟩, ⟨0, 0, 0⟩, ⟨0, 0, 0⟩, ⟨0, 0, 0⟩, ⟨0, 0, 0⟩, ⟨0, 0, 0⟩, ⟨0, 0, 0⟩, ⟨0, 0, 0⟩,
  ⟨0, 0, 0⟩, ⟨0, 0, 0⟩, ⟨0, 0, 0⟩, ⟨0, 0, 0⟩, ⟨0, 0, 0⟩, ⟨0, 0, 0⟩, ⟨0, 0, 0⟩, ⟨0, 0, 0⟩, ⟨0, 0, 0⟩, ⟨0, 0, 0⟩, ⟨0, 0, 0⟩, ⟨0, 0, 0⟩,
  ⟨0, 0, 0⟩, ⟨0, 0, 0⟩, ⟨0, 0, 0⟩, ⟨0, 0, 0⟩, ⟨0, 0, 0⟩, ⟨0, 0, 0⟩, ⟨0, 0, 0⟩, ⟨0, 0, 0⟩, ⟨0, 0, 0⟩, ⟨0, 0, 0⟩, ⟨0, 0, 0⟩, ⟨0, 0, 0⟩,
  ⟨0, 0, 0⟩, ⟨0, 0, 0⟩, ⟨0, 0, 0⟩, ⟨0, 0, 0⟩, ⟨0, 0, 0⟩, ⟨0, 0, 0⟩, ⟨0, 0, 0⟩, ⟨0, 0, 0⟩, ⟨0, 0, 0⟩, ⟨0, 0, 0⟩, ⟨0, 0, 0⟩, ⟨0, 0, 0⟩,
  ⟨0, 0, 0⟩, ⟨0, 0, 0⟩, ⟨0, 0, 0⟩, ⟨0, 0, 0⟩, ⟨0, 0, 0⟩, ⟨0, 0, 0⟩, ⟨0, 0, 0⟩, ⟨0, 0, 0⟩, ⟨0, 0, 0⟩, ⟨0, 0, 0⟩, ⟨0, 0, 0⟩, ⟨0, 0, 0⟩,
  ⟨0, 0, 0⟩, ⟨0, 0, 0⟩, ⟨0, 0, 0⟩, ⟨0, 0, 0⟩, ⟨0, 0, 0⟩, ⟨0, 0, 0⟩, ⟨0, 0, 0⟩, ⟨0, 0, 0⟩, ⟨0, 0, 0⟩, ⟨0, 0, 0⟩, ⟨0, 0, 0⟩, ⟨28, 2, 3⟩,
  ⟨0, 0, 0⟩, ⟨0, 0, 0⟩, ⟨0, 0, 0⟩, ⟨0, 0, 0⟩, ⟨0, 0, 0⟩, ⟨0, 0, 0⟩, ⟨0, 0, 0⟩, ⟨0, 0, 0⟩, ⟨28, 2, 4⟩, ⟨0, 0, 0⟩, ⟨0, 0, 0⟩, ⟨0, 0, 0⟩,
  ⟨0, 0, 0⟩, ⟨0, 0, 0⟩, ⟨0, 0, 0⟩, ⟨28, 3, 3⟩, ⟨0, 0, 0⟩, ⟨0, 0, 0⟩, ⟨0, 0, 0⟩, ⟨0, 0, 0⟩, ⟨0, 0, 0⟩, ⟨0, 0, 0⟩, ⟨0, 0, 0⟩, ⟨0, 0, 0⟩,
  ⟨28, 3, 4⟩, ⟨0, 0, 0⟩, ⟨0, 0, 0⟩, ⟨0, 0, 0⟩, ⟨0, 0, 0⟩, ⟨0, 0, 0⟩, ⟨0, 0, 0⟩, ⟨28, 4, 3⟩, ⟨0, 0, 0⟩, ⟨0, 0, 0⟩, ⟨0, 0, 0⟩, ⟨0, 0, 0⟩,
  ⟨0, 0, 0⟩, ⟨0, 0, 0⟩, ⟨0, 0, 0⟩, ⟨0, 0, 0⟩, ⟨28, 4, 4⟩, ⟨0, 0, 0⟩, ⟨0, 0, 0⟩, ⟨0, 0, 0⟩, ⟨0, 0, 0⟩, ⟨0, 0, 0⟩, ⟨0, 0, 0⟩, ⟨28, 5, 3⟩,
  ⟨0, 0, 0⟩, ⟨0, 0, 0⟩, ⟨0, 0, 0⟩, ⟨0, 0, 0⟩, ⟨0, 0, 0⟩, ⟨0, 0, 0⟩, ⟨0, 0, 0⟩, ⟨0, 0, 0⟩, ⟨28, 5, 4⟩, ⟨0, 0, 0⟩, ⟨0, 0, 0⟩, ⟨0, 0, 0⟩,
  ⟨0, 0, 0⟩, ⟨0, 0, 0⟩, ⟨0, 0, 0⟩, ⟨0, 0, 0⟩, ⟨0, 0, 0⟩, ⟨0, 0, 0⟩, ⟨0, 0, 0⟩, ⟨0, 0, 0⟩, ⟨0, 0, 0⟩, ⟨0, 0, 0⟩, ⟨0, 0, 0⟩, ⟨0, 0, 0⟩,
  ⟨0, 0, 0⟩, ⟨0, 0, 0⟩, ⟨0, 0, 0⟩, ⟨0, 0, 0⟩, ⟨0, 0, 0⟩, ⟨0, 0, 0⟩, ⟨0, 0, 0⟩, ⟨0, 0, 0⟩, ⟨0, 0, 0⟩, ⟨0, 0, 0⟩, ⟨0, 0, 0⟩, ⟨0, 0, 0⟩,
  ⟨0, 0, 0⟩, ⟨0, 0, 0⟩, ⟨0, 0, 0⟩, ⟨0, 0, 0⟩, ⟨0, 0, 0⟩, ⟨0, 0, 0⟩, ⟨0, 0, 0⟩, ⟨0, 0, 0⟩, ⟨0, 0, 0⟩, ⟨0, 0, 0⟩, ⟨0, 0, 0⟩, ⟨0, 0, 0⟩,
  ⟨0, 0, 0⟩, ⟨0, 0, 0⟩, ⟨0, 0, 0⟩, ⟨0, 0, 0⟩, ⟨0, 0, 0⟩, ⟨0, 0, 0⟩, ⟨0, 0, 0⟩, ⟨0, 0, 0⟩, ⟨0, 0, 0⟩, ⟨0, 0, 0⟩, ⟨0, 0, 0⟩, ⟨0, 0, 0⟩,
  ⟨0, 0, 0⟩, ⟨0, 0, 0⟩, ⟨0, 0, 0⟩, ⟨0, 0, 0⟩, ⟨0, 0, 0⟩, ⟨0, 0, 0⟩, ⟨0, 0, 0⟩, ⟨0, 0, 0⟩, ⟨0, 0, 0⟩, ⟨0, 0, 0⟩, ⟨0, 0, 0⟩, ⟨0, 0, 0⟩,
  ⟨0, 0, 0⟩, ⟨0, 0, 0⟩, ⟨0, 0, 0⟩, ⟨0, 0, 0⟩]
deriving instance DecidableEq for api_Entry
deriving instance DecidableEq for spinetref14_Known
theorem all_tab : spinetref14_All = some refTab := by decide +kernel

def same (a b : api_Entry) : Bool := a.Op == b.Op && (a.Mode == b.Mode && (a.Reg == b.Reg && true))

theorem same_eq {a b : api_Entry} (h : same a b = true) : a = b := by
  obtain ⟨a1, a2, a3⟩ := a
  obtain ⟨b1, b2, b3⟩ := b
  simp [same] at h
  obtain ⟨h1, h2, h3⟩ := h
  subst h1 h2 h3
  rfl

theorem same_self (a : api_Entry) : same a a = true := by simp [same]

def pageTab (p : Int) : List api_Entry := if p = 1 then pageTab1 else if p = 2 then pageTab2 else pageTab3

def okTab (f : Int → Option api_Entry) : Nat → List api_Entry → Bool
  | _, [] => true
  | c, x :: r => (match f c with | some y => same x y | none => false) && okTab f (c + 1) r

theorem okTab_at {f : Int → Option api_Entry} : ∀ {l : List api_Entry} {c : Nat}, okTab f c l = true → ∀ j x, l[j]? = some x → f ((c + j : Nat) : Int) = some x
  | [], c, _, j, x, hx => by simp at hx
  | y :: r, c, h, j, x, hx => by
    simp only [okTab, Bool.and_eq_true] at h
    cases j with
    | zero =>
      simp at hx; subst hx
      have h1 := h.1
      split at h1
      · rename_i z hz
        rw [same_eq h1]; simpa using hz
      · simp at h1
    | succ j =>
      have := okTab_at h.2 j x (by simpa using hx)
      rw [show c + (j + 1) = c + 1 + j by omega]; exact this

theorem page1_ok : okTab (page_Of 1) 0 pageTab1 = true := by decide +kernel
theorem page2_ok : okTab (page_Of 2) 0 pageTab2 = true := by decide +kernel
theorem page3_ok : okTab (page_Of 3) 0 pageTab3 = true := by decide +kernel
theorem len1 : pageTab1.length = 256 := by decide +kernel
theorem len2 : pageTab2.length = 256 := by decide +kernel
theorem len3 : pageTab3.length = 256 := by decide +kernel

theorem pageTab_len (p : Int) : (pageTab p).length = 256 := by
  unfold pageTab
  split
  · exact len1
  · split
    · exact len2
    · exact len3

theorem page_at {p : Int} (hp : p = 1 ∨ p = 2 ∨ p = 3) (c : Nat) (x : api_Entry) (h : (pageTab p)[c]? = some x) : page_Of p (c : Int) = some x := by
  rcases hp with rfl | rfl | rfl
  · have := okTab_at page1_ok c x (by simpa [pageTab] using h); rwa [Nat.zero_add] at this
  · have := okTab_at page2_ok c x (by simpa [pageTab] using h); rwa [Nat.zero_add] at this
  · have := okTab_at page3_ok c x (by simpa [pageTab] using h); rwa [Nat.zero_add] at this

theorem page_else {p : Int} (hp : ¬(p = 1 ∨ p = 2 ∨ p = 3)) (c : Int) : page_Of p c = some ⟨0, 0, 0⟩ := by
  simp only [not_or] at hp
  simp [page_Of, hp.1, hp.2.1, hp.2.2]

/-- The first code from c on at which the entry stands. -/
def seek (e : api_Entry) : Nat → List api_Entry → Option Nat
  | _, [] => none
  | c, x :: r => if same x e = true then some c else seek e (c + 1) r

theorem wrap8 {c : Nat} (h : c < 256) : IntKind.wrap .u8 (c : Int) = c := wrap_u8 (by omega) (by omega)
theorem wrap64 {c : Nat} (h : c < 2 ^ 62) : IntKind.wrap .i64 (c : Int) = c := wrap_i64 (by omega) (by omega)
theorem wrap64s {c : Nat} (h : c < 2 ^ 62) : IntKind.wrap .i64 ((c : Int) + 1) = ((c + 1 : Nat) : Int) := by
  rw [show ((c : Int) + 1) = ((c + 1 : Nat) : Int) by omega]
  exact wrap_i64 (by omega) (by omega)

theorem find_l3 (e : api_Entry) {p : Int} (hp : p = 1 ∨ p = 2 ∨ p = 3) : ∀ (l : List api_Entry) (c k : Nat), (pageTab p).drop c = l → c ≤ 256 → l.length < k →
    page_Find_l3 e p k c = some (match seek e c l with | some j => .ret (p, (j : Int), true) | none => .go (256, false))
  | l, c, 0, hl, hc, hk => by omega
  | [], c, k + 1, hl, hc, hk => by
    have : c = 256 := by
      have := congrArg List.length hl
      rw [List.length_drop, pageTab_len] at this
      simp at this; omega
    subst this
    rfl
  | x :: r, c, k + 1, hl, hc, hk => by
    have hlt : c < 256 := by
      have := congrArg List.length hl
      rw [List.length_drop, pageTab_len] at this
      simp at this; omega
    have hx : (pageTab p)[c]? = some x := by
      have := congrArg (fun t => t[0]?) hl
      simpa using this
    have hr : (pageTab p).drop (c + 1) = r := by
      rw [← List.drop_drop, hl]; rfl
    have hd : decide ((c : Int) < 256) = true := decide_eq_true (by omega)
    simp only [page_Find_l3, hd, if_true, wrap8 hlt, page_at hp c x hx, Option.bind_some, wrap64s (show c < 2 ^ 62 by omega)]
    rw [seek]
    by_cases h : same x e = true
    · rw [if_pos h]
      have h' := h
      simp only [same] at h'
      rw [if_pos h']
    · rw [if_neg h]
      have h' := h
      simp only [same] at h'
      rw [if_neg h']
      exact find_l3 e hp r (c + 1) k hr (by omega) (by simp at hk; omega)

def look (e : api_Entry) : Int × Int × Bool :=
  if e.Op = 0 then (0, 0, false) else
  match seek e 0 pageTab1 with
  | some j => (1, (j : Int), true)
  | none => match seek e 0 pageTab2 with
    | some j => (2, (j : Int), true)
    | none => match seek e 0 pageTab3 with
      | some j => (3, (j : Int), true)
      | none => (0, 0, false)

theorem find_is (e : api_Entry) : page_Find e = some (look e) := by
  have L : ∀ p : Int, (p = 1 ∨ p = 2 ∨ p = 3) → page_Find_l3 e p BIG 0 = some (match seek e 0 (pageTab p) with | some j => .ret (p, (j : Int), true) | none => .go (256, false)) := fun p hp =>
    find_l3 e hp (pageTab p) 0 BIG rfl (by omega) (by rw [pageTab_len]; decide)
  have L1 := L 1 (.inl rfl)
  have L2 := L 2 (.inr (.inl rfl))
  have L3 := L 3 (.inr (.inr rfl))
  have t1 : pageTab 1 = pageTab1 := rfl
  have t2 : pageTab 2 = pageTab2 := rfl
  have t3 : pageTab 3 = pageTab3 := rfl
  rw [t1] at L1; rw [t2] at L2; rw [t3] at L3
  have hB : BIG = (BIG - 4) + 1 + 1 + 1 + 1 := by decide
  have w1 : IntKind.wrap .i64 (1 + 1) = 2 := by decide +kernel
  have w2 : IntKind.wrap .i64 (2 + 1) = 3 := by decide +kernel
  have w3 : IntKind.wrap .i64 (3 + 1) = 4 := by decide +kernel
  have F : ∀ k p, page_Find_l2 e (k + 1) p = if ((decide (p ≤ 3)) && (e.Op != 0)) = true then
      (page_Find_l3 e p BIG (0)).bind fun o => match o with
        | .ret r => some (.ret r)
        | .go (t_10, t_11) => page_Find_l2 e k (IntKind.wrap .i64 (p + 1))
    else some (.go ()) := fun k p => rfl
  unfold page_Find look
  rw [hB, F]
  by_cases h0 : e.Op = 0
  · simp [h0]
  · have d : ∀ p : Int, p ≤ 3 → ((decide (p ≤ 3)) && (e.Op != 0)) = true := fun p hp => by simp [hp, h0]
    rw [if_pos (d 1 (by decide)), if_neg h0, L1]
    cases seek e 0 pageTab1 with
    | some j => rfl
    | none =>
      simp only [Option.bind_some]
      rw [w1, F, if_pos (d 2 (by decide)), L2]
      cases seek e 0 pageTab2 with
      | some j => rfl
      | none =>
        simp only [Option.bind_some]
        rw [w2, F, if_pos (d 3 (by decide)), L3]
        cases seek e 0 pageTab3 with
        | some j => rfl
        | none =>
          simp only [Option.bind_some]
          rw [w3, F]
          rfl

theorem alive_ok : spinetlaw14_alive = some true := by decide +kernel

theorem gt_at {α : Type} [Inhabited α] {l : List α} {i : Nat} {x : α} (h : l[i]? = some x) : gt l (i : Int) = x := by
  simp [gt, h]

theorem drop_cons {α : Type} {l r : List α} {i : Nat} {x : α} (h : l.drop i = x :: r) : l[i]? = some x ∧ l.drop (i + 1) = r ∧ i < l.length := by
  refine ⟨by have := congrArg (fun t => t[0]?) h; simpa [List.getElem?_drop] using this, by rw [← List.drop_drop, h]; rfl, ?_⟩
  have := congrArg List.length h
  rw [List.length_drop] at this
  simp at this; omega

theorem drop_nil {α : Type} {l : List α} {i : Nat} (h : l.drop i = []) : l.length ≤ i := by
  have := congrArg List.length h
  rw [List.length_drop] at this
  simp at this; omega

theorem scan_of (page code : Int) (T : List spinetref14_Known) (hT : T.length < 2 ^ 40) : ∀ (l : List spinetref14_Known) (i k : Nat), T.drop i = l → l.length < k →
    spinetref14_Of_l0 page code T k i = some (match l.find? (fun x => x.Page == page && x.Code == code) with | some x => .ret x.Entry | none => .go ())
  | l, i, 0, hl, hk => by omega
  | [], i, k + 1, hl, hk => by
    have : ¬ (i : Int) < ln T := by have := drop_nil hl; simp only [ln]; omega
    simp only [spinetref14_Of_l0, decide_eq_false this]
    rfl
  | x :: r, i, k + 1, hl, hk => by
    obtain ⟨hx, hr, hlt⟩ := drop_cons hl
    have h1 : (i : Int) < ln T := by simp only [ln]; omega
    have h2 : 0 ≤ (i : Int) ∧ (i : Int) < ln T := ⟨by omega, h1⟩
    have h3 : (x.Page == page) = true → 0 ≤ (i : Int) ∧ (i : Int) < ln T := fun _ => h2
    simp only [spinetref14_Of_l0, decide_eq_true h1, gt_at hx, if_true, if_pos h2, if_pos h3, wrap64s (show i < 2 ^ 62 by omega), List.find?_cons]
    cases x.Page == page && x.Code == code with
    | true => rfl
    | false => exact scan_of page code T hT r (i + 1) k hr (by simp at hk; omega)

def refOf (page code : Int) : api_Entry := match refTab.find? (fun x => x.Page == page && x.Code == code) with | some x => x.Entry | none => ⟨0, 0, 0⟩

theorem refLen : refTab.length = 268 := by decide +kernel

theorem of_is (page code : Int) : spinetref14_Of page code = some (refOf page code) := by
  have := scan_of page code refTab (by rw [refLen]; decide) refTab 0 BIG rfl (by rw [refLen]; decide)
  unfold spinetref14_Of refOf
  simp only [all_tab, Option.bind_some]
  rw [show (0 : Int) = ((0 : Nat) : Int) from rfl, this]
  cases refTab.find? (fun x => x.Page == page && x.Code == code) <;> rfl

theorem scan_finds (e : api_Entry) (r : Int × Int × Bool) (T : List spinetref14_Known) (hT : T.length < 2 ^ 40) : ∀ (l : List spinetref14_Known) (i k : Nat), T.drop i = l → l.length < k →
    spinetlaw14_PageFinds_l0 e r T k i = some (match l.find? (fun x => same x.Entry e) with | some x => .ret (((r.1 == x.Page) && ((IntKind.wrap .i64 r.2.1) == x.Code)) && r.2.2) | none => .go ())
  | l, i, 0, hl, hk => by omega
  | [], i, k + 1, hl, hk => by
    have : ¬ (i : Int) < ln T := by have := drop_nil hl; simp only [ln]; omega
    simp only [spinetlaw14_PageFinds_l0, decide_eq_false this]
    rfl
  | x :: t, i, k + 1, hl, hk => by
    obtain ⟨hx, hr, hlt⟩ := drop_cons hl
    have h1 : (i : Int) < ln T := by simp only [ln]; omega
    have h2 : 0 ≤ (i : Int) ∧ (i : Int) < ln T := ⟨by omega, h1⟩
    have h3 : (r.1 == x.Page) = true → 0 ≤ (i : Int) ∧ (i : Int) < ln T := fun _ => h2
    simp only [spinetlaw14_PageFinds_l0, decide_eq_true h1, gt_at hx, if_true, if_pos h2, if_pos h3, wrap64s (show i < 2 ^ 62 by omega), List.find?_cons, alive_ok]
    by_cases h : same x.Entry e = true
    · have h' := h
      simp only [same] at h'
      rw [if_pos h', h]
      show _ = some (Out.ret (((r.1 == x.Page) && ((IntKind.wrap .i64 r.2.1) == x.Code)) && r.2.2))
      cases (((r.1 == x.Page) && ((IntKind.wrap .i64 r.2.1) == x.Code)) && r.2.2) <;> rfl
    · have h' := h
      simp only [same] at h'
      rw [if_neg h', (Bool.not_eq_true _).mp h]
      exact scan_finds e r T hT t (i + 1) k hr (by simp at hk; omega)

/-- What stands in the table is found where it stands. -/
def tabFinds : List spinetref14_Known → Bool
  | [] => true
  | x :: r => (let o := look x.Entry; o.1 == x.Page && IntKind.wrap .i64 o.2.1 == x.Code && o.2.2) && tabFinds r
theorem tabFinds_ok : tabFinds refTab = true := by decide +kernel
theorem tabFinds_mem : ∀ {l : List spinetref14_Known}, tabFinds l = true → ∀ x ∈ l, (let o := look x.Entry; o.1 == x.Page && IntKind.wrap .i64 o.2.1 == x.Code && o.2.2) = true
  | [], _, x, hx => by simp at hx
  | y :: r, h, x, hx => by
    simp only [tabFinds, Bool.and_eq_true] at h
    rcases List.mem_cons.1 hx with rfl | hx
    · simpa using h.1
    · exact tabFinds_mem h.2 x hx

theorem seek_some {e : api_Entry} : ∀ {l : List api_Entry} {c j : Nat}, seek e c l = some j → ∃ x ∈ l, x = e
  | [], c, j, h => by simp [seek] at h
  | x :: r, c, j, h => by
    rw [seek] at h
    split at h
    · rename_i hx
      exact ⟨x, by simp, same_eq hx⟩
    · obtain ⟨y, hy, he⟩ := seek_some h
      exact ⟨y, by simp [hy], he⟩

def allIn (l : List api_Entry) : Bool := l.all fun x => x.Op == 0 || refTab.any fun k => same k.Entry x
theorem allIn1 : allIn pageTab1 = true := by decide +kernel
theorem allIn2 : allIn pageTab2 = true := by decide +kernel
theorem allIn3 : allIn pageTab3 = true := by decide +kernel

theorem seek_none {e : api_Entry} (h0 : e.Op ≠ 0) (hn : refTab.find? (fun x => same x.Entry e) = none) {l : List api_Entry} (hl : allIn l = true) (c : Nat) : seek e c l = none := by
  cases h : seek e c l with
  | none => rfl
  | some j =>
    obtain ⟨x, hx, rfl⟩ := seek_some h
    have := List.all_eq_true.1 hl x hx
    simp only [Bool.or_eq_true, beq_iff_eq, h0, false_or, List.any_eq_true] at this
    obtain ⟨k, hk, hs⟩ := this
    exact absurd hs (by simpa using List.find?_eq_none.1 hn k hk)

theorem look_none {e : api_Entry} (hn : refTab.find? (fun x => same x.Entry e) = none) : look e = (0, 0, false) := by
  unfold look
  by_cases h0 : e.Op = 0
  · rw [if_pos h0]
  · rw [if_neg h0, seek_none h0 hn allIn1, seek_none h0 hn allIn2, seek_none h0 hn allIn3]

theorem pageFinds_true (e : api_Entry) : spinetlaw14_PageFinds e = some true := by
  have hs := scan_finds e (look e) refTab (by rw [refLen]; decide) refTab 0 BIG rfl (by rw [refLen]; decide)
  unfold spinetlaw14_PageFinds
  rw [find_is]
  simp only [Option.bind_some, all_tab]
  rw [show (0 : Int) = ((0 : Nat) : Int) from rfl, hs]
  cases h : refTab.find? (fun x => same x.Entry e) with
  | some x =>
    have he : x.Entry = e := same_eq (List.find?_some (p := fun (x : spinetref14_Known) => same x.Entry e) h)
    have := tabFinds_mem tabFinds_ok x (List.mem_of_find?_eq_some h)
    rw [he] at this
    exact congrArg some this
  | none =>
    simp only [Option.bind_some, look_none h, alive_ok]
    rfl

theorem prefix_is (code : Int) : page_Prefix code = some (if code = 16 then 2 else if code = 17 then 3 else 0) := by
  unfold page_Prefix
  by_cases h : code = 16 <;> by_cases h2 : code = 17 <;> simp [h, h2]

def codeB (p code : Int) (x : api_Entry) : Bool :=
  same x (refOf p code) && (let f := look x; if x.Op = 0 then (f.1 == 0 && f.2.1 == 0) && !f.2.2 else (f.1 == p && f.2.1 == code) && f.2.2)

theorem codes_j0 {p : Int} {c : Nat} {x : api_Entry} (hc : c < 256) (h : codeB p c x = true) : spinetlaw14_PageCodes_j0 p c x (if (c : Int) = 16 then 2 else if (c : Int) = 17 then 3 else 0) = some true := by
  simp only [codeB, Bool.and_eq_true] at h
  obtain ⟨h1, h2⟩ := h
  unfold spinetlaw14_PageCodes_j0
  rw [wrap64 (by omega), of_is]
  simp only [Option.bind_some, prefix_is, find_is, alive_ok]
  simp only [same] at h1
  rw [h1]
  simp only [Bool.not_true, Bool.not_false, if_true, Option.bind_some, bne_self_eq_false, Bool.or_self, Bool.false_eq_true, if_false]
  by_cases h0 : x.Op = 0
  · rw [if_pos h0] at h2
    rw [if_pos (by simpa using h0), h2]
    rfl
  · rw [if_neg h0] at h2
    rw [if_neg (by simpa using h0), h2]
    rfl

theorem codes_true {p : Int} {c : Nat} {x : api_Entry} (hc : c < 256) (hx : page_Of p c = some x) (h : codeB p c x = true) : spinetlaw14_PageCodes p c = some true := by
  have := codes_j0 hc h
  unfold spinetlaw14_PageCodes
  rw [hx]
  simp only [Option.bind_some, wrap64 (show c < 2 ^ 62 by omega)]
  by_cases h1 : (c : Int) = 16
  · rw [h1] at this ⊢
    exact this
  · by_cases h2 : (c : Int) = 17
    · rw [h2] at this ⊢
      exact this
    · rw [if_neg h1, if_neg h2] at this
      rw [if_neg (by simp [h1, h2])]
      exact this

def codesB (p : Int) : Nat → List api_Entry → Bool
  | _, [] => true
  | c, x :: r => codeB p c x && codesB p (c + 1) r

theorem codesB_at {p : Int} : ∀ {l : List api_Entry} {c : Nat}, codesB p c l = true → ∀ j x, l[j]? = some x → codeB p ((c + j : Nat) : Int) x = true
  | [], c, _, j, x, hx => by simp at hx
  | y :: r, c, h, j, x, hx => by
    simp only [codesB, Bool.and_eq_true] at h
    cases j with
    | zero => simp at hx; subst hx; exact h.1
    | succ j =>
      have := codesB_at h.2 j x (by simpa using hx)
      rw [show c + (j + 1) = c + 1 + j by omega]; exact this

theorem codes1 : codesB 1 0 pageTab1 = true := by decide +kernel
theorem codes2 : codesB 2 0 pageTab2 = true := by decide +kernel
theorem codes3 : codesB 3 0 pageTab3 = true := by decide +kernel
theorem refPages : (refTab.all fun x => x.Page == 1 || x.Page == 2 || x.Page == 3) = true := by decide +kernel

theorem codeB_else {p : Int} (hp : ¬(p = 1 ∨ p = 2 ∨ p = 3)) (c : Int) : codeB p c ⟨0, 0, 0⟩ = true := by
  have : refOf p c = ⟨0, 0, 0⟩ := by
    unfold refOf
    cases h : refTab.find? (fun x => x.Page == p && x.Code == c) with
    | none => rfl
    | some x =>
      have h1 := List.find?_some h
      have h2 := List.all_eq_true.1 refPages x (List.mem_of_find?_eq_some h)
      simp at h1 h2
      exact absurd (by omega) hp
  unfold codeB
  rw [this]
  rfl

theorem pageCodes_true (p code : Int) (h : 0 ≤ code) (h' : code < 256) : spinetlaw14_PageCodes p code = some true := by
  obtain ⟨c, rfl⟩ := Int.eq_ofNat_of_zero_le h
  have hc : c < 256 := by omega
  by_cases hp : p = 1 ∨ p = 2 ∨ p = 3
  · have hl : c < (pageTab p).length := by rw [pageTab_len]; exact hc
    have hx : (pageTab p)[c]? = some (pageTab p)[c] := List.getElem?_eq_getElem hl
    refine codes_true hc (page_at hp c _ hx) ?_
    rcases hp with rfl | rfl | rfl
    · have := codesB_at codes1 c _ hx; rwa [Nat.zero_add] at this
    · have := codesB_at codes2 c _ hx; rwa [Nat.zero_add] at this
    · have := codesB_at codes3 c _ hx; rwa [Nat.zero_add] at this
  · exact codes_true hc (page_else hp _) (codeB_else hp _)
end Go.Proofs.YtjaadpgmiejidaaK
