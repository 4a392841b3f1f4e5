/-
  Merged: XTab, XNumE, XGradients, XEw, XGradientRamps, XRootE, XPlace.
-/
import Derived.Test.YticolnghiibgfaaGreatProg
import Derived.Test.YticolnghiibgfaaGreatEng2
import Derived.Test.YticolnghiibgfaaGreatMrg3
import Derived.Test.YticolnghiibgfaaGreatMrg9
import Derived.Test.YticolnghiibgfaaGreatMrg11
set_option linter.unusedVariables false
set_option linter.unusedSimpArgs false
set_option linter.unnecessarySimpa false
namespace Go.Proofs.YticolnghiibgfaaGreat
open Go.RowKit
def tab:Tab:=[
  (1,⟨.fn,1,8,[.nilFunc]⟩),
  (2,⟨.int .i64,1,8,[.int .i64 0]⟩),
  (3,⟨.int .i64,1,8,[.int .i64 0]⟩),
  (4,⟨.bool,1,1,[.bool false]⟩),
  (5,⟨.int .u8,1,1,[.int .u8 0]⟩),
  (9,⟨.str,1,16,[.string ByteArray.empty]⟩),
  (12,⟨.int .u64,1,8,[.int .u64 0]⟩),
  (17,⟨.ptr 216,1,8,[.pointer none]⟩),
  (20,⟨.iface,1,16,[.nilIface]⟩),
  (21,⟨.int .i32,1,4,[.int .i32 0]⟩),
  (22,⟨.slice 9,1,24,[.slice none 0 0]⟩),
  (23,⟨.slice 56,1,24,[.slice none 0 0]⟩),
  (24,⟨.strct [(0,3),(1,3),(2,22),(3,23)],4,64,[.int .i64 0,.int .i64 0,.slice none 0 0,.slice none 0 0]⟩),
  (25,⟨.strct [(0,3),(1,3),(2,22),(3,23)],4,64,[.int .i64 0,.int .i64 0,.slice none 0 0,.slice none 0 0]⟩),
  (26,⟨.fn,1,8,[.nilFunc]⟩),
  (27,⟨.arr 8 5,8,8,[.int .u8 0,.int .u8 0,.int .u8 0,.int .u8 0,.int .u8 0,.int .u8 0,.int .u8 0,.int .u8 0]⟩),
  (28,⟨.arr 8 5,8,8,[.int .u8 0,.int .u8 0,.int .u8 0,.int .u8 0,.int .u8 0,.int .u8 0,.int .u8 0,.int .u8 0]⟩),
  (29,⟨.int .i64,1,8,[.int .i64 0]⟩),
  (31,⟨.fn,1,8,[.nilFunc]⟩),
  (32,⟨.fn,1,8,[.nilFunc]⟩),
  (33,⟨.fn,1,8,[.nilFunc]⟩),
  (34,⟨.fn,1,8,[.nilFunc]⟩),
  (35,⟨.fn,1,8,[.nilFunc]⟩),
  (36,⟨.fn,1,8,[.nilFunc]⟩),
  (37,⟨.arr 2 3,2,16,[.int .i64 0,.int .i64 0]⟩),
  (38,⟨.fn,1,8,[.nilFunc]⟩),
  (40,⟨.fn,1,8,[.nilFunc]⟩),
  (42,⟨.fn,1,8,[.nilFunc]⟩),
  (43,⟨.slice 87,1,24,[.slice none 0 0]⟩),
  (44,⟨.strct [(0,3),(1,3)],2,16,[.int .i64 0,.int .i64 0]⟩),
  (45,⟨.strct [(0,3),(1,3)],2,16,[.int .i64 0,.int .i64 0]⟩),
  (46,⟨.slice 119,1,24,[.slice none 0 0]⟩),
  (47,⟨.slice 28,1,24,[.slice none 0 0]⟩),
  (48,⟨.slice 5,1,24,[.slice none 0 0]⟩),
  (49,⟨.strct [(0,3),(1,3),(2,3),(3,3),(4,3),(5,3)],6,48,[.int .i64 0,.int .i64 0,.int .i64 0,.int .i64 0,.int .i64 0,.int .i64 0]⟩),
  (50,⟨.strct [(0,3),(1,3),(2,3),(3,3),(4,3),(5,3)],6,48,[.int .i64 0,.int .i64 0,.int .i64 0,.int .i64 0,.int .i64 0,.int .i64 0]⟩),
  (51,⟨.strct [(0,3),(1,3),(2,47),(3,48),(4,50),(10,4),(11,4)],12,120,[.int .i64 0,.int .i64 0,.slice none 0 0,.slice none 0 0,.int .i64 0,.int .i64 0,.int .i64 0,.int .i64 0,.int .i64 0,.int .i64 0,.bool false,.bool false]⟩),
  (52,⟨.strct [(0,3),(1,3),(2,47),(3,48),(4,50),(10,4),(11,4)],12,120,[.int .i64 0,.int .i64 0,.slice none 0 0,.slice none 0 0,.int .i64 0,.int .i64 0,.int .i64 0,.int .i64 0,.int .i64 0,.int .i64 0,.bool false,.bool false]⟩),
  (53,⟨.strct [(0,3),(1,28),(9,45),(11,45),(13,3),(14,46),(15,52)],27,200,[.int .i64 0,.int .u8 0,.int .u8 0,.int .u8 0,.int .u8 0,.int .u8 0,.int .u8 0,.int .u8 0,.int .u8 0,.int .i64 0,.int .i64 0,.int .i64 0,.int .i64 0,.int .i64 0,.slice none 0 0,.int .i64 0,.int .i64 0,.slice none 0 0,.slice none 0 0,.int .i64 0,.int .i64 0,.int .i64 0,.int .i64 0,.int .i64 0,.int .i64 0,.bool false,.bool false]⟩),
  (54,⟨.strct [(0,3),(1,28),(9,45),(11,45),(13,3),(14,46),(15,52)],27,200,[.int .i64 0,.int .u8 0,.int .u8 0,.int .u8 0,.int .u8 0,.int .u8 0,.int .u8 0,.int .u8 0,.int .u8 0,.int .i64 0,.int .i64 0,.int .i64 0,.int .i64 0,.int .i64 0,.slice none 0 0,.int .i64 0,.int .i64 0,.slice none 0 0,.slice none 0 0,.int .i64 0,.int .i64 0,.int .i64 0,.int .i64 0,.int .i64 0,.int .i64 0,.bool false,.bool false]⟩),
  (55,⟨.strct [(0,3),(1,43),(2,54),(29,5),(30,3),(31,4),(32,4),(33,4)],34,256,[.int .i64 0,.slice none 0 0,.int .i64 0,.int .u8 0,.int .u8 0,.int .u8 0,.int .u8 0,.int .u8 0,.int .u8 0,.int .u8 0,.int .u8 0,.int .i64 0,.int .i64 0,.int .i64 0,.int .i64 0,.int .i64 0,.slice none 0 0,.int .i64 0,.int .i64 0,.slice none 0 0,.slice none 0 0,.int .i64 0,.int .i64 0,.int .i64 0,.int .i64 0,.int .i64 0,.int .i64 0,.bool false,.bool false,.int .u8 0,.int .i64 0,.bool false,.bool false,.bool false]⟩),
  (56,⟨.strct [(0,3),(1,43),(2,54),(29,5),(30,3),(31,4),(32,4),(33,4)],34,256,[.int .i64 0,.slice none 0 0,.int .i64 0,.int .u8 0,.int .u8 0,.int .u8 0,.int .u8 0,.int .u8 0,.int .u8 0,.int .u8 0,.int .u8 0,.int .i64 0,.int .i64 0,.int .i64 0,.int .i64 0,.int .i64 0,.slice none 0 0,.int .i64 0,.int .i64 0,.slice none 0 0,.slice none 0 0,.int .i64 0,.int .i64 0,.int .i64 0,.int .i64 0,.int .i64 0,.int .i64 0,.bool false,.bool false,.int .u8 0,.int .i64 0,.bool false,.bool false,.bool false]⟩),
  (57,⟨.fn,1,8,[.nilFunc]⟩),
  (58,⟨.fn,1,8,[.nilFunc]⟩),
  (59,⟨.fn,1,8,[.nilFunc]⟩),
  (60,⟨.fn,1,8,[.nilFunc]⟩),
  (62,⟨.fn,1,8,[.nilFunc]⟩),
  (63,⟨.fn,1,8,[.nilFunc]⟩),
  (64,⟨.fn,1,8,[.nilFunc]⟩),
  (65,⟨.fn,1,8,[.nilFunc]⟩),
  (66,⟨.fn,1,8,[.nilFunc]⟩),
  (67,⟨.fn,1,8,[.nilFunc]⟩),
  (68,⟨.fn,1,8,[.nilFunc]⟩),
  (69,⟨.fn,1,8,[.nilFunc]⟩),
  (70,⟨.fn,1,8,[.nilFunc]⟩),
  (71,⟨.fn,1,8,[.nilFunc]⟩),
  (72,⟨.fn,1,8,[.nilFunc]⟩),
  (73,⟨.fn,1,8,[.nilFunc]⟩),
  (74,⟨.fn,1,8,[.nilFunc]⟩),
  (75,⟨.fn,1,8,[.nilFunc]⟩),
  (76,⟨.ptr 134,1,8,[.pointer none]⟩),
  (77,⟨.strct [(0,76),(1,3)],2,16,[.pointer none,.int .i64 0]⟩),
  (78,⟨.strct [(0,76),(1,3)],2,16,[.pointer none,.int .i64 0]⟩),
  (79,⟨.fn,1,8,[.nilFunc]⟩),
  (80,⟨.fn,1,8,[.nilFunc]⟩),
  (81,⟨.fn,1,8,[.nilFunc]⟩),
  (82,⟨.fn,1,8,[.nilFunc]⟩),
  (83,⟨.strct [(0,5),(1,28)],9,9,[.int .u8 0,.int .u8 0,.int .u8 0,.int .u8 0,.int .u8 0,.int .u8 0,.int .u8 0,.int .u8 0,.int .u8 0]⟩),
  (84,⟨.strct [(0,5),(1,28)],9,9,[.int .u8 0,.int .u8 0,.int .u8 0,.int .u8 0,.int .u8 0,.int .u8 0,.int .u8 0,.int .u8 0,.int .u8 0]⟩),
  (85,⟨.fn,1,8,[.nilFunc]⟩),
  (86,⟨.strct [(0,3),(1,3),(2,3)],3,24,[.int .i64 0,.int .i64 0,.int .i64 0]⟩),
  (87,⟨.strct [(0,3),(1,3),(2,3)],3,24,[.int .i64 0,.int .i64 0,.int .i64 0]⟩),
  (88,⟨.fn,1,8,[.nilFunc]⟩),
  (89,⟨.ptr 45,1,8,[.pointer none]⟩),
  (90,⟨.fn,1,8,[.nilFunc]⟩),
  (91,⟨.ptr 56,1,8,[.pointer none]⟩),
  (93,⟨.fn,1,8,[.nilFunc]⟩),
  (94,⟨.ptr 54,1,8,[.pointer none]⟩),
  (95,⟨.fn,1,8,[.nilFunc]⟩),
  (96,⟨.slice 3,1,24,[.slice none 0 0]⟩),
  (97,⟨.fn,1,8,[.nilFunc]⟩),
  (98,⟨.fn,1,8,[.nilFunc]⟩),
  (100,⟨.fn,1,8,[.nilFunc]⟩),
  (101,⟨.fn,1,8,[.nilFunc]⟩),
  (102,⟨.fn,1,8,[.nilFunc]⟩),
  (103,⟨.slice 84,1,24,[.slice none 0 0]⟩),
  (104,⟨.fn,1,8,[.nilFunc]⟩),
  (105,⟨.strct [(0,3),(1,3),(2,3)],3,24,[.int .i64 0,.int .i64 0,.int .i64 0]⟩),
  (106,⟨.strct [(0,3),(1,3),(2,3)],3,24,[.int .i64 0,.int .i64 0,.int .i64 0]⟩),
  (107,⟨.fn,1,8,[.nilFunc]⟩),
  (108,⟨.fn,1,8,[.nilFunc]⟩),
  (109,⟨.fn,1,8,[.nilFunc]⟩),
  (110,⟨.fn,1,8,[.nilFunc]⟩),
  (112,⟨.fn,1,8,[.nilFunc]⟩),
  (113,⟨.fn,1,8,[.nilFunc]⟩),
  (114,⟨.fn,1,8,[.nilFunc]⟩),
  (115,⟨.fn,1,8,[.nilFunc]⟩),
  (116,⟨.fn,1,8,[.nilFunc]⟩),
  (117,⟨.fn,1,8,[.nilFunc]⟩),
  (118,⟨.strct [(0,3),(1,28)],9,16,[.int .i64 0,.int .u8 0,.int .u8 0,.int .u8 0,.int .u8 0,.int .u8 0,.int .u8 0,.int .u8 0,.int .u8 0]⟩),
  (119,⟨.strct [(0,3),(1,28)],9,16,[.int .i64 0,.int .u8 0,.int .u8 0,.int .u8 0,.int .u8 0,.int .u8 0,.int .u8 0,.int .u8 0,.int .u8 0]⟩),
  (120,⟨.fn,1,8,[.nilFunc]⟩),
  (121,⟨.fn,1,8,[.nilFunc]⟩),
  (122,⟨.slice 23,1,24,[.slice none 0 0]⟩),
  (123,⟨.fn,1,8,[.nilFunc]⟩),
  (124,⟨.strct [(0,43)],1,24,[.slice none 0 0]⟩),
  (125,⟨.strct [(0,43)],1,24,[.slice none 0 0]⟩),
  (126,⟨.fn,1,8,[.nilFunc]⟩),
  (127,⟨.fn,1,8,[.nilFunc]⟩),
  (128,⟨.fn,1,8,[.nilFunc]⟩),
  (129,⟨.fn,1,8,[.nilFunc]⟩),
  (130,⟨.fn,1,8,[.nilFunc]⟩),
  (131,⟨.fn,1,8,[.nilFunc]⟩),
  (132,⟨.slice 144,1,24,[.slice none 0 0]⟩),
  (133,⟨.strct [(0,56),(34,3),(35,131),(36,132)],37,296,[.int .i64 0,.slice none 0 0,.int .i64 0,.int .u8 0,.int .u8 0,.int .u8 0,.int .u8 0,.int .u8 0,.int .u8 0,.int .u8 0,.int .u8 0,.int .i64 0,.int .i64 0,.int .i64 0,.int .i64 0,.int .i64 0,.slice none 0 0,.int .i64 0,.int .i64 0,.slice none 0 0,.slice none 0 0,.int .i64 0,.int .i64 0,.int .i64 0,.int .i64 0,.int .i64 0,.int .i64 0,.bool false,.bool false,.int .u8 0,.int .i64 0,.bool false,.bool false,.bool false,.int .i64 0,.nilFunc,.slice none 0 0]⟩),
  (134,⟨.strct [(0,56),(34,3),(35,131),(36,132)],37,296,[.int .i64 0,.slice none 0 0,.int .i64 0,.int .u8 0,.int .u8 0,.int .u8 0,.int .u8 0,.int .u8 0,.int .u8 0,.int .u8 0,.int .u8 0,.int .i64 0,.int .i64 0,.int .i64 0,.int .i64 0,.int .i64 0,.slice none 0 0,.int .i64 0,.int .i64 0,.slice none 0 0,.slice none 0 0,.int .i64 0,.int .i64 0,.int .i64 0,.int .i64 0,.int .i64 0,.int .i64 0,.bool false,.bool false,.int .u8 0,.int .i64 0,.bool false,.bool false,.bool false,.int .i64 0,.nilFunc,.slice none 0 0]⟩),
  (135,⟨.slice 76,1,24,[.slice none 0 0]⟩),
  (136,⟨.ptr 141,1,8,[.pointer none]⟩),
  (137,⟨.fn,1,8,[.nilFunc]⟩),
  (138,⟨.fn,1,8,[.nilFunc]⟩),
  (139,⟨.fn,1,8,[.nilFunc]⟩),
  (140,⟨.strct [(0,56),(34,3),(35,137),(36,131)],37,280,[.int .i64 0,.slice none 0 0,.int .i64 0,.int .u8 0,.int .u8 0,.int .u8 0,.int .u8 0,.int .u8 0,.int .u8 0,.int .u8 0,.int .u8 0,.int .i64 0,.int .i64 0,.int .i64 0,.int .i64 0,.int .i64 0,.slice none 0 0,.int .i64 0,.int .i64 0,.slice none 0 0,.slice none 0 0,.int .i64 0,.int .i64 0,.int .i64 0,.int .i64 0,.int .i64 0,.int .i64 0,.bool false,.bool false,.int .u8 0,.int .i64 0,.bool false,.bool false,.bool false,.int .i64 0,.nilFunc,.nilFunc]⟩),
  (141,⟨.strct [(0,56),(34,3),(35,137),(36,131)],37,280,[.int .i64 0,.slice none 0 0,.int .i64 0,.int .u8 0,.int .u8 0,.int .u8 0,.int .u8 0,.int .u8 0,.int .u8 0,.int .u8 0,.int .u8 0,.int .i64 0,.int .i64 0,.int .i64 0,.int .i64 0,.int .i64 0,.slice none 0 0,.int .i64 0,.int .i64 0,.slice none 0 0,.slice none 0 0,.int .i64 0,.int .i64 0,.int .i64 0,.int .i64 0,.int .i64 0,.int .i64 0,.bool false,.bool false,.int .u8 0,.int .i64 0,.bool false,.bool false,.bool false,.int .i64 0,.nilFunc,.nilFunc]⟩),
  (142,⟨.fn,1,8,[.nilFunc]⟩),
  (143,⟨.iface,1,16,[.nilIface]⟩),
  (144,⟨.iface,1,16,[.nilIface]⟩),
  (145,⟨.fn,1,8,[.nilFunc]⟩),
  (147,⟨.fn,1,8,[.nilFunc]⟩),
  (148,⟨.fn,1,8,[.nilFunc]⟩),
  (149,⟨.fn,1,8,[.nilFunc]⟩),
  (150,⟨.fn,1,8,[.nilFunc]⟩),
  (151,⟨.fn,1,8,[.nilFunc]⟩),
  (152,⟨.fn,1,8,[.nilFunc]⟩),
  (153,⟨.fn,1,8,[.nilFunc]⟩),
  (155,⟨.fn,1,8,[.nilFunc]⟩),
  (156,⟨.fn,1,8,[.nilFunc]⟩),
  (157,⟨.fn,1,8,[.nilFunc]⟩),
  (158,⟨.int .u64,1,8,[.int .u64 0]⟩),
  (159,⟨.ptr 125,1,8,[.pointer none]⟩),
  (160,⟨.arr 2 43,2,48,[.slice none 0 0,.slice none 0 0]⟩),
  (161,⟨.fn,1,8,[.nilFunc]⟩),
  (162,⟨.strct [(0,52),(12,50)],18,168,[.int .i64 0,.int .i64 0,.slice none 0 0,.slice none 0 0,.int .i64 0,.int .i64 0,.int .i64 0,.int .i64 0,.int .i64 0,.int .i64 0,.bool false,.bool false,.int .i64 0,.int .i64 0,.int .i64 0,.int .i64 0,.int .i64 0,.int .i64 0]⟩),
  (163,⟨.strct [(0,52),(12,50)],18,168,[.int .i64 0,.int .i64 0,.slice none 0 0,.slice none 0 0,.int .i64 0,.int .i64 0,.int .i64 0,.int .i64 0,.int .i64 0,.int .i64 0,.bool false,.bool false,.int .i64 0,.int .i64 0,.int .i64 0,.int .i64 0,.int .i64 0,.int .i64 0]⟩),
  (164,⟨.fn,1,8,[.nilFunc]⟩),
  (165,⟨.fn,1,8,[.nilFunc]⟩),
  (167,⟨.fn,1,8,[.nilFunc]⟩),
  (168,⟨.fn,1,8,[.nilFunc]⟩),
  (169,⟨.fn,1,8,[.nilFunc]⟩),
  (170,⟨.slice 4,1,24,[.slice none 0 0]⟩),
  (171,⟨.fn,1,8,[.nilFunc]⟩),
  (172,⟨.fn,1,8,[.nilFunc]⟩),
  (173,⟨.fn,1,8,[.nilFunc]⟩),
  (175,⟨.fn,1,8,[.nilFunc]⟩),
  (176,⟨.fn,1,8,[.nilFunc]⟩),
  (177,⟨.fn,1,8,[.nilFunc]⟩),
  (178,⟨.fn,1,8,[.nilFunc]⟩),
  (179,⟨.fn,1,8,[.nilFunc]⟩),
  (180,⟨.fn,1,8,[.nilFunc]⟩),
  (181,⟨.slice 185,1,24,[.slice none 0 0]⟩),
  (182,⟨.fn,1,8,[.nilFunc]⟩),
  (183,⟨.arr 2 4,2,2,[.bool false,.bool false]⟩),
  (184,⟨.strct [(0,3),(1,3),(2,3)],3,24,[.int .i64 0,.int .i64 0,.int .i64 0]⟩),
  (185,⟨.strct [(0,3),(1,3),(2,3)],3,24,[.int .i64 0,.int .i64 0,.int .i64 0]⟩),
  (186,⟨.fn,1,8,[.nilFunc]⟩),
  (187,⟨.fn,1,8,[.nilFunc]⟩),
  (188,⟨.fn,1,8,[.nilFunc]⟩),
  (189,⟨.arr 12 113,12,96,[.nilFunc,.nilFunc,.nilFunc,.nilFunc,.nilFunc,.nilFunc,.nilFunc,.nilFunc,.nilFunc,.nilFunc,.nilFunc,.nilFunc]⟩),
  (190,⟨.fn,1,8,[.nilFunc]⟩),
  (191,⟨.fn,1,8,[.nilFunc]⟩),
  (192,⟨.fn,1,8,[.nilFunc]⟩),
  (193,⟨.arr 8 3,8,64,[.int .i64 0,.int .i64 0,.int .i64 0,.int .i64 0,.int .i64 0,.int .i64 0,.int .i64 0,.int .i64 0]⟩),
  (194,⟨.fn,1,8,[.nilFunc]⟩),
  (195,⟨.arr 4 3,4,32,[.int .i64 0,.int .i64 0,.int .i64 0,.int .i64 0]⟩),
  (196,⟨.fn,1,8,[.nilFunc]⟩),
  (197,⟨.fn,1,8,[.nilFunc]⟩),
  (198,⟨.fn,1,8,[.nilFunc]⟩),
  (199,⟨.int .u32,1,4,[.int .u32 0]⟩),
  (200,⟨.fn,1,8,[.nilFunc]⟩),
  (201,⟨.int .u64,1,8,[.int .u64 0]⟩),
  (202,⟨.fn,1,8,[.nilFunc]⟩),
  (208,⟨.fn,1,8,[.nilFunc]⟩),
  (211,⟨.fn,1,8,[.nilFunc]⟩),
  (212,⟨.ptr 5,1,8,[.pointer none]⟩),
  (215,⟨.strct [(0,12),(1,12),(2,199),(3,209),(4,5),(5,5),(6,210),(7,211),(8,212),(9,213),(10,214)],11,48,[.int .u64 0,.int .u64 0,.int .u32 0,.int .u8 0,.int .u8 0,.int .u8 0,.int .u8 0,.nilFunc,.pointer none,.int .i32 0,.int .i32 0]⟩)]
set_option maxRecDepth 100000 in
theorem tab_ok:TOk Tryz.prog tab:=by unfold TOk;kernel_rfl
theorem eq28 {x y:Operand} {l m:List AV} {K:Bool→Prop} (h:q1p l fun xs=>q1p m fun ys=>q0m (q00 [.int .u8,.int .u8,.int .u8,.int .u8,.int .u8,.int .u8,.int .u8,.int .u8] xs) (q0m (q00 [.int .u8,.int .u8,.int .u8,.int .u8,.int .u8,.int .u8,.int .u8,.int .u8] ys) (q3o xs ys K))):EqP Tryz.prog 28 x y (.agg l) (.agg m) K:=q55 (ks:=[.int .u8,.int .u8,.int .u8,.int .u8,.int .u8,.int .u8,.int .u8,.int .u8]) (by kernel_rfl) (by kernel_rfl) (by kernel_rfl) h
theorem eq45 {x y:Operand} {l m:List AV} {K:Bool→Prop} (h:q1p l fun xs=>q1p m fun ys=>q0m (q00 [.int .i64,.int .i64] xs) (q0m (q00 [.int .i64,.int .i64] ys) (q3o xs ys K))):EqP Tryz.prog 45 x y (.agg l) (.agg m) K:=q55 (ks:=[.int .i64,.int .i64]) (by kernel_rfl) (by kernel_rfl) (by kernel_rfl) h
theorem eq50 {x y:Operand} {l m:List AV} {K:Bool→Prop} (h:q1p l fun xs=>q1p m fun ys=>q0m (q00 [.int .i64,.int .i64,.int .i64,.int .i64,.int .i64,.int .i64] xs) (q0m (q00 [.int .i64,.int .i64,.int .i64,.int .i64,.int .i64,.int .i64] ys) (q3o xs ys K))):EqP Tryz.prog 50 x y (.agg l) (.agg m) K:=q55 (ks:=[.int .i64,.int .i64,.int .i64,.int .i64,.int .i64,.int .i64]) (by kernel_rfl) (by kernel_rfl) (by kernel_rfl) h
theorem eq84 {x y:Operand} {l m:List AV} {K:Bool→Prop} (h:q1p l fun xs=>q1p m fun ys=>q0m (q00 [.int .u8,.int .u8,.int .u8,.int .u8,.int .u8,.int .u8,.int .u8,.int .u8,.int .u8] xs) (q0m (q00 [.int .u8,.int .u8,.int .u8,.int .u8,.int .u8,.int .u8,.int .u8,.int .u8,.int .u8] ys) (q3o xs ys K))):EqP Tryz.prog 84 x y (.agg l) (.agg m) K:=q55 (ks:=[.int .u8,.int .u8,.int .u8,.int .u8,.int .u8,.int .u8,.int .u8,.int .u8,.int .u8]) (by kernel_rfl) (by kernel_rfl) (by kernel_rfl) h
theorem eq87 {x y:Operand} {l m:List AV} {K:Bool→Prop} (h:q1p l fun xs=>q1p m fun ys=>q0m (q00 [.int .i64,.int .i64,.int .i64] xs) (q0m (q00 [.int .i64,.int .i64,.int .i64] ys) (q3o xs ys K))):EqP Tryz.prog 87 x y (.agg l) (.agg m) K:=q55 (ks:=[.int .i64,.int .i64,.int .i64]) (by kernel_rfl) (by kernel_rfl) (by kernel_rfl) h
theorem x37 {x y:Operand} {l m:List AV} {K:Bool→Prop} (h:q1p l fun xs=>q1p m fun ys=>q0m (q00 [.int .i64,.int .i64,.int .i64] xs) (q0m (q00 [.int .i64,.int .i64,.int .i64] ys) (q3o xs ys K))):EqP Tryz.prog 106 x y (.agg l) (.agg m) K:=q55 (ks:=[.int .i64,.int .i64,.int .i64]) (by kernel_rfl) (by kernel_rfl) (by kernel_rfl) h
theorem x38 {x y:Operand} {l m:List AV} {K:Bool→Prop} (h:q1p l fun xs=>q1p m fun ys=>q0m (q00 [.int .i64,.int .u8,.int .u8,.int .u8,.int .u8,.int .u8,.int .u8,.int .u8,.int .u8] xs) (q0m (q00 [.int .i64,.int .u8,.int .u8,.int .u8,.int .u8,.int .u8,.int .u8,.int .u8,.int .u8] ys) (q3o xs ys K))):EqP Tryz.prog 119 x y (.agg l) (.agg m) K:=q55 (ks:=[.int .i64,.int .u8,.int .u8,.int .u8,.int .u8,.int .u8,.int .u8,.int .u8,.int .u8]) (by kernel_rfl) (by kernel_rfl) (by kernel_rfl) h
theorem x39 {x y:Operand} {l m:List AV} {K:Bool→Prop} (h:q1p l fun xs=>q1p m fun ys=>q0m (q00 [.int .i64,.int .i64,.int .i64] xs) (q0m (q00 [.int .i64,.int .i64,.int .i64] ys) (q3o xs ys K))):EqP Tryz.prog 185 x y (.agg l) (.agg m) K:=q55 (ks:=[.int .i64,.int .i64,.int .i64]) (by kernel_rfl) (by kernel_rfl) (by kernel_rfl) h
theorem stQ {p q:Prop} (k:q) (h:q→p:=by first |(with_reducible exact q8e) |(with_reducible exact q7g) |(with_reducible exact z2g) |(with_reducible exact z2h) |((with_reducible refine z02 ?_);(· omega)) |((with_reducible refine z03 ?_);(· omega)) |((with_reducible refine q3k ?_);(· assumption)) |((with_reducible refine q3p ?_);(· assumption)) |((with_reducible refine z6h ?_);(· omega)) |((with_reducible refine mustP.mk ?_);(· first |omega |rfl |(dsimp only;omega))) |(with_reducible exact z6u tab_ok) |(with_reducible exact z6v tab_ok) |(with_reducible exact z4f) |(with_reducible exact z09 tab_ok) |(with_reducible exact z4g tab_ok) |((with_reducible refine q98 tab_ok ?_);(· rfl)) |(with_reducible exact z1g tab_ok (by kernel_rfl) (by decide +kernel)) |(with_reducible exact z30 tab_ok (by kernel_rfl) (by decide +kernel)) |(with_reducible exact eq28) |(with_reducible exact eq45) |(with_reducible exact eq50) |(with_reducible exact eq84) |(with_reducible exact eq87) |(with_reducible exact x37) |(with_reducible exact x38) |(with_reducible exact x39)):p:=h k
theorem s3Q {p q:Prop} (k:q) (h:q→p:=by first |(with_reducible exact q8e) |(with_reducible exact q7g) |(with_reducible exact z2g) |(with_reducible exact z2h) |((with_reducible refine z02 ?_);(· omega)) |((with_reducible refine z03 ?_);(· omega)) |((with_reducible refine q3k ?_);(· assumption)) |((with_reducible refine q3p ?_);(· assumption)) |((with_reducible refine z6h ?_);(· omega)) |((with_reducible refine mustP.mk ?_);(· first |omega |rfl |(dsimp only;omega))) |(with_reducible exact z6u tab_ok) |(with_reducible exact z6v tab_ok) |(with_reducible exact z4f) |(with_reducible exact z09 tab_ok) |(with_reducible exact z4g tab_ok) |((with_reducible refine q98 tab_ok ?_);(· rfl)) |(with_reducible exact z1g tab_ok (by kernel_rfl) (by decide +kernel)) |(with_reducible exact x1j tab_ok (by kernel_rfl) (by decide +kernel)) |(with_reducible exact eq28) |(with_reducible exact eq45) |(with_reducible exact eq50) |(with_reducible exact eq84) |(with_reducible exact eq87) |(with_reducible exact x37) |(with_reducible exact x38) |(with_reducible exact x39)):p:=h k
theorem scQ {p q:Prop} (k:q) (h:q→p:=by first |(with_reducible exact q8e) |(with_reducible exact q7g) |(with_reducible exact z2g) |(with_reducible exact z2h) |((with_reducible refine z02 ?_);(· omega)) |((with_reducible refine z03 ?_);(· omega)) |((with_reducible refine q3k ?_);(· assumption)) |((with_reducible refine q3p ?_);(· assumption)) |((with_reducible refine z6h ?_);(· omega)) |((with_reducible refine mustP.mk ?_);(· first |omega |rfl |(dsimp only;omega))) |(with_reducible exact z6u tab_ok) |(with_reducible exact z6v tab_ok) |(with_reducible exact z4f) |(with_reducible exact z09 tab_ok) |(with_reducible exact z4g tab_ok) |((with_reducible refine q98 tab_ok ?_);(· rfl)) |(with_reducible exact z1g tab_ok (by kernel_rfl) (by decide +kernel)) |(with_reducible exact z30 tab_ok (by kernel_rfl) (by decide +kernel)) |(with_reducible exact eq28) |(with_reducible exact eq45) |(with_reducible exact eq50) |(with_reducible exact eq84) |(with_reducible exact eq87) |(with_reducible exact x37) |(with_reducible exact x38) |(with_reducible exact x39) |(with_reducible exact z9z) |(with_reducible exact q6f tab_ok) |((with_reducible refine z02 ?_);(· decide)) |((with_reducible refine z03 ?_);(· decide)) |((with_reducible refine v0z ?_);(· decide)) |((with_reducible refine mustP.mk ?_);(· decide)) |((with_reducible refine isP.mk 0 ?_);(· decide +kernel)) |((with_reducible refine isP.mk 1 ?_);(· decide +kernel)) |(with_reducible exact isP.mk _ (by exact rfl)) |(with_reducible exact q9s (by kernel_rfl))):p:=h k
theorem flQ {p:Prop} (h:p:=by repeat (first |(with_reducible exact x7p) |(with_reducible first |refine x7q ?_ |refine x7r ?_) |((with_reducible refine z6t rfl ?_ ?_);(· rfl)) |((with_reducible refine z2k (x5h ?_) ?_ ?_);(· omega);(· rfl)) |((with_reducible refine z2k (x5h ?_) ?_ ?_);(· simp only [Int.natCast_add,Int.natCast_one,Int.natCast_ofNat] <;> omega);(· rfl)) |((with_reducible refine z2k (x90 ?_) ?_ ?_);(· first |assumption |(symm;assumption));(· rfl)))):p:=h
end Go.Proofs.YticolnghiibgfaaGreat
namespace Go.Proofs.YticolnghiibgfaaGreat
open Go.RowKit
set_option maxRecDepth 20000
theorem z2s {a b:Int} {G:Mem} (ha:-4611686018427387904≤a∧a≤4611686018427387904) (hb:1≤b∧b≤4611686018427387904):Gives Tryz.prog 135 [.val (.int .i64 a),.val (.int .i64 b)] G (.val (.int .i64 (a/b))) :=
  Gives.of_calls (args:=[.int .i64 a,.int .i64 b]) fun w _=>(x2u a b w ha hb).mono fun _ _ h=>⟨h.1,h.2 ▸ Below.refl _ _⟩
theorem z5q {a b:Int} {G:Mem} (ha:-4611686018427387904≤a∧a≤4611686018427387904) (hb:1≤b∧b≤4611686018427387904):Gives Tryz.prog 110 [.val (.int .i64 a),.val (.int .i64 b)] G (.val (.int .i64 (near a b))) :=
  Gives.of_calls (args:=[.int .i64 a,.int .i64 b]) fun w _=>(q16 a b w ha hb).mono fun _ _ h=>⟨h.1,h.2 ▸ Below.refl _ _⟩
theorem x6b {a b:Int} {hp:List Blk} {G:Mem} {K:AV→List Blk→Mem→Prop} (c:Int) (e:a/b=c) (ha:-4611686018427387904≤a∧a≤4611686018427387904) (hb:1≤b∧b≤4611686018427387904) (h:K (.val (.int .i64 c)) hp G):CallP Tryz.prog 135 [.val (.int .i64 a),.val (.int .i64 b)] hp G K:=q0b (fun vs w=>by kernel_rfl) (by rfl) (z2s ha hb) (by rw [e];exact h)
end Go.Proofs.YticolnghiibgfaaGreat
namespace Go.Proofs.YticolnghiibgfaaGreat
open Go.RowKit
set_option maxRecDepth 20000
end Go.Proofs.YticolnghiibgfaaGreat
namespace Go.Proofs.YticolnghiibgfaaGreat
open Go.RowKit
theorem z6z {w w':World} (h:(q2k w).holds w'):Below w.heap.size {w' with heap:=w.heap} w':=by
  refine ⟨rfl,rfl,rfl,?_,fun k hk=>?_⟩
  · rcases Nat.eq_zero_or_pos w.heap.size with h0 |h0
    · show w.heap.size≤_;omega
    · have hk:w.heap.size-1<w.heap.size:=by omega
      have h1:=h (w.heap.size-1) _ (Array.getElem?_eq_getElem hk)
      have h2:=(Array.getElem?_eq_some_iff.1 h1).1
      show w.heap.size≤_
      omega
  · have h1:=h k _ (Array.getElem?_eq_getElem hk)
    show w'.heap[k]? = w.heap[k]?
    rw [h1,Array.getElem?_eq_getElem hk]
theorem Sees.heap {P:Program} {w w':World} (hh:w'.heap=w.heap):∀ (n:Nat) (t:TypeId) (cs:List Value),Sees P w n t cs→Sees P w' n t cs
  | 0,_,_,h=>h.elim
  | n+1,t,cs,h=>by
    unfold Sees at h ⊢
    split <;> first |(rename_i ht;rw [ht] at h;simp only at h) |skip
    · exact h
    · exact h
    · exact h
    · exact ⟨h.1,fun i f hi=>Sees.heap hh n _ _ (h.2 i f hi)⟩
    · exact ⟨h.1,fun i hi=>Sees.heap hh n _ _ (h.2 i hi)⟩
    · rcases h with h |⟨a,len,cap,h1,h2,h3,h4⟩
      · exact .inl h
      · refine .inr ⟨a,len,cap,h1,h2,h3,fun i hi=>?_⟩
        obtain ⟨cs',hl,hc,hs⟩:=h4 i hi
        refine ⟨cs',hl,fun j hj=>?_,Sees.heap hh n _ _ hs⟩
        rw [← hc j hj]
        simp only [World.cell?,hh]
    · trivial
theorem SliceG.holds {P:Program} {w w':World} {e:TypeId} {A:Option Addr} {n:Nat} {g:Nat→Nat→Value} (h:SliceG P w e A n g) (hb:(q2k w).holds w'):SliceG P w' e A n g:=by
  have h1:SliceG P {w' with heap:=w.heap} e A n g:=by
    intro hn
    obtain ⟨b,off,hA,hlt,hc⟩:=h hn
    refine ⟨b,off,hA,hlt,fun x hx=>⟨(hc x hx).1,?_⟩⟩
    obtain ⟨m,hm⟩:=(hc x hx).2
    exact ⟨m,Sees.heap (w:=w) (w':={w' with heap:=w.heap}) rfl _ _ _ hm⟩
  exact h1.below (z6z hb)
theorem Gives.of_callsA {P:Program} {f:FuncId} {args:List Value} {avs:List AV} {G:Mem} {y:Value} {v:AV} (ha:∀ vs,AV.rels noName avs vs→vs=args) (hv:v.rel noName y)
    (h:∀ w,G.holds w→Calls P f args.toArray w fun e w'=>e=.returned y∧Below w.heap.size w w'):Gives P f avs G v:=by
  intro w vs hG har
  have e:vs=args.toArray:=by rw [← ha _ har]
  subst e
  refine (h w hG).mono ?_
  rintro e w' ⟨rfl,h3⟩
  exact ⟨y,rfl,hv,h3⟩
theorem v0f {P:Program} {T:Tab} (hT:TOk P T) {f:FuncId} {fn:Func} (hfn:P.funcs[f]? = some fn) {avs:List AV} {args:Array Value} {w:World} (ha:AV.rels noName avs args.toList)
    (h:q4d P T 0 fn avs [] (q2k w) fun v _ _=>v=.val (.bool true)):Calls P f args w fun e w'=>e=.returned (.bool true)∧Below w.heap.size w w':=by
  refine (q76 hT hfn ha (z3v w) h (fun _ _ _ _ _ h=>h)).mono ?_
  rintro e w' ⟨y,β',v,hp',G',h1,h2,h3,rfl⟩
  simp only [AV.rel] at h3
  subst h3
  exact ⟨h1,h2.below⟩
theorem q4k {P:Program} {f:FuncId} (hen:∀ vs w,(callFunc f vs).run P w=.ok (.enter f vs) w) {args:List AV} {hp:List Blk} {G:Mem} {K:AV→List Blk→Mem→Prop} {wrap:AV→AV} (hwr:Wraps wrap) {E:TypeId} {sz n:Nat} {xs:List Value} (hu:AV.unders 0 args=true)
    (hc:q4f P f args G wrap E sz n xs) (h:∀ A cap G',G.le G'→n≤cap→cap≤maxLen→(xs=[]∨∃ b,A=some ⟨b,0,none⟩∧∀ (j:Nat) u,xs[j]? = some u→G'.cell? ⟨b,j,none⟩=some u)→K (wrap (.val (.slice A n cap))) hp G'):CallP P f args hp G K:=by
  refine ⟨hen,fun w0 G0 β w vs hr ha=>(hc w vs hr.hold (q2z hu ha)).mono ?_⟩
  rintro e w' ⟨y,s,rfl,h2,h3,h4⟩
  have hr':=hr.step h4
  have hv:∀ s':Value,(AV.val s').rel β s':=fun s'=>by simp only [AV.rel]
  rcases h3.2 with ⟨rfl,h5⟩ |⟨g,cap,cur,rfl,h5,h6,h7,h8,h9,h10⟩
  · have h0:=h none 0 G (Mem.le_refl _) (by omega) (Nat.zero_le _) (.inl (by have:=h3.1;rw [h5] at this;simpa using this))
    subst h5
    exact ⟨y,β,_,hp,G,rfl,Nm.le_refl _,hr',hwr.rel (hv _) h2,h0⟩
  · have hcell:∀ (j:Nat) u,xs[j]? = some u→(G.and w' g).cell? ⟨g,j,none⟩=some u:=fun j u hj=>by
      have h11:(G.and w' g) g=some (.cells cur E (0,0)):=by simp [Mem.and,h6]
      unfold Mem.cell?
      rw [h11]
      rw [← h10] at hj
      rw [List.getElem?_take] at hj
      split at hj
      · simpa using hj
      · cases hj
    have h0:=h (some ⟨g,0,none⟩) cap (G.and w' g) (Mem.le_and hr'.hold g) h7 h8 (.inr ⟨g,rfl,hcell⟩)
    refine ⟨y,β,_,hp,G.and w' g,rfl,Nm.le_refl _,⟨hr'.below,Mem.and_holds hr'.hold g,Mem.le_trans hr'.sub (Mem.le_and hr'.hold g),fun b o hb=>?_,fun k z hk=>?_,hr'.inj,hr'.wrt⟩,hwr.rel (hv _) h2,h0⟩
    · unfold Mem.and at hb
      split at hb
      · rename_i e1;subst e1
        right
        exact Nat.le_trans hr.below.size h5
      · exact hr'.grow b o hb
    · obtain ⟨x,hx1,hx2⟩:=hr.blk k z hk
      obtain ⟨x',hx1',hx2'⟩:=hr'.blk k z hk
      rw [hx1] at hx1';cases hx1'
      refine ⟨x,hx1,?_⟩
      have hne:∀ b,x.live=true→q0g z=some b→b≠g:=fun b hl hb=>by
        have:=(hr.lt hk hx1 hl hb).2.1
        omega
      cases x with
      | gone=>trivial
      | muts S=>exact hx2'.elim
      | cells t l =>
        obtain ⟨b,c,q1,q2,q3,q4,q5⟩:=hx2'
        refine ⟨b,c,q1,q2,?_,q4,q5⟩
        have:=hne b rfl (by rw [q1];rfl)
        simp [Mem.and,this,q3]
      | own e' sz' n' xs' =>
        refine ⟨hx2'.1,fun b hb=>?_⟩
        have:=hne b rfl hb
        simp [Mem.and,this,hx2'.2 b hb]
      | lp i fr st p =>
        obtain ⟨q1,q2,q3,q4⟩:=hx2'
        refine ⟨q1,q2,?_,q4⟩
        have:=hne i.l rfl (by rw [q1];rfl)
        simp [Mem.and,this,q3]
      | mp f ks vs =>
        obtain ⟨b,ys,q1,q2,q3,q4⟩:=hx2'
        refine ⟨b,ys,q1,q2,?_,q4⟩
        have:=hne b rfl (by rw [q1];rfl)
        simp [Mem.and,this,q3]
end Go.Proofs.YticolnghiibgfaaGreat
namespace Go.Proofs.YticolnghiibgfaaGreat.gradientRamps
open Go.RowKit
set_option maxRecDepth 20000
theorem rel8 {β:Nm} (B:Nat→Int):AV.rels β [.val (.int .u8 (B 0)),.val (.int .u8 (B 1)),.val (.int .u8 (B 2)),.val (.int .u8 (B 3)),.val (.int .u8 (B 4)),.val (.int .u8 (B 5)),.val (.int .u8 (B 6)),.val (.int .u8 (B 7))] [.int .u8 (B 0),.int .u8 (B 1),.int .u8 (B 2),.int .u8 (B 3),.int .u8 (B 4),.int .u8 (B 5),.int .u8 (B 6),.int .u8 (B 7)]:=q48 [.int .u8 (B 0),.int .u8 (B 1),.int .u8 (B 2),.int .u8 (B 3),.int .u8 (B 4),.int .u8 (B 5),.int .u8 (B 6),.int .u8 (B 7)]
def inks (B:Nat→Int):AV:=.agg [.val (.int .u8 (B 0)),.val (.int .u8 (B 1)),.val (.int .u8 (B 2)),.val (.int .u8 (B 3)),.val (.int .u8 (B 4)),.val (.int .u8 (B 5)),.val (.int .u8 (B 6)),.val (.int .u8 (B 7))]
theorem x9e {a b:Value}:∀ vs,AV.rels noName [.val a,.val b] vs→vs=[a,b]:=fun vs h=>(q06 (m:=[a,b]) h)
theorem x0i {β:Nm} (B:Nat→Int):(inks B).rel β (.agg #[.int .u8 (B 0),.int .u8 (B 1),.int .u8 (B 2),.int .u8 (B 3),.int .u8 (B 4),.int .u8 (B 5),.int .u8 (B 6),.int .u8 (B 7)]):=by
  unfold inks;rw [AV.rel];exact ⟨_,rfl,rel8 (β:=β) B⟩
theorem x1v {A:Option Addr} {n cap:Nat} {g:Nat→Nat→Value} {w:World} {t:Int} (h:SliceG Tryz.prog w 119 A n g) (he:q1g (fun x=>valI (g x 0)) n=0) (ht:0≤t∧t≤65536) :
    Gives Tryz.prog 118 [.val (.slice A n cap),.val (.int .i64 t)] (q2k w) (inks (q6k n (fun x=>valI (g x 0)) (fun x j=>valI (g x (j+1))) t)):=by
  refine Gives.of_callsA x9e (x0i _) fun w' hw=>?_
  obtain ⟨b,off,rfl,h1,h2⟩:=z2p (h.holds hw) (by have:=(q5a he).1;omega)
  exact (z98 b off n cap _ _ _ t w' (q5a he).1 ht (q5a he).2 h2 h1 fun j hj=>rfl).2
end Go.Proofs.YticolnghiibgfaaGreat.gradientRamps
namespace Go.Proofs.YticolnghiibgfaaGreat
open Go.RowKit
set_option maxRecDepth 20000
theorem q3i {a b A B:Int} (ha:-A≤a∧a≤A) (hb:-B≤b∧b≤B):-(A*B)≤a*b∧a*b≤A*B:=by
  have hA:0≤A:=by omega
  have hB:0≤B:=by omega
  have h1:(a*b).natAbs≤A.natAbs*B.natAbs:=by
    rw [Int.natAbs_mul]
    exact Nat.mul_le_mul (by omega) (by omega)
  have h2:A.natAbs*B.natAbs=(A*B).natAbs:=(Int.natAbs_mul A B).symm
  have h3:0≤A*B:=Int.mul_nonneg hA hB
  omega
theorem q36 (a:Int):0≤a*a:=by
  rcases Int.le_total 0 a with h |h
  · exact Int.mul_nonneg h h
  · have:=Int.mul_nonneg (show 0≤-a by omega) (show 0≤-a by omega)
    rwa [Int.neg_mul_neg] at this
theorem z5r {a:Int} (h:a≠0):1≤a*a:=by
  have h1:=q36 a
  have h2:a*a≠0:=fun e=>by rcases Int.mul_eq_zero.1 e with h |h <;> omega
  omega
noncomputable def q8l (n:Int):Int:=Classical.epsilon fun r=>q40 n r
theorem z4o {n:Int} (h:0≤n):q40 n (q8l n):=Classical.epsilon_spec (x99 h)
theorem x4a {n:Int} {G:Mem} (hn:0≤n∧n≤4611686018427387904):Gives Tryz.prog 144 [.val (.int .i64 n)] G (.val (.int .i64 (q8l n))) :=
  Gives.of_calls (args:=[.int .i64 n]) fun w _=>(x8f n _ w hn (z4o hn.1)).mono fun _ _ h=>⟨h.1,h.2 ▸ Below.refl _ _⟩
theorem x1w {n:Int} {G:Mem} (hn:0≤n∧n≤4611686018427387904):Gives Tryz.prog 140 [.val (.int .i64 n)] G (.val (.int .i64 (q8l n))) :=
  Gives.of_calls (args:=[.int .i64 n]) fun w _=>(x54 n _ w hn (z4o hn.1)).mono fun _ _ h=>⟨h.1,h.2 ▸ Below.refl _ _⟩
end Go.Proofs.YticolnghiibgfaaGreat
namespace Go.Proofs.YticolnghiibgfaaGreat
open Go.RowKit
set_option maxRecDepth 20000
theorem q37 {a b:Int} {G:Mem} (ha:-4611686018427387904≤a∧a≤4611686018427387904) (hb:1≤b∧b≤4611686018427387904):Gives Tryz.prog 120 [.val (.int .i64 a),.val (.int .i64 b)] G (.val (.int .i64 (a/b))) :=
  Gives.of_calls (args:=[.int .i64 a,.int .i64 b]) fun w _=>(z90 a b w ha hb).mono fun _ _ h=>⟨h.1,h.2 ▸ Below.refl _ _⟩
abbrev srcA (k:Int) (I:Nat→Int) (fx fy tx ty r:Int) (st:Value) (W H:Int) (px sf:Value) (a b c d e f:Int) (s t:Bool):AV :=
  .agg [.val (.int .i64 k),.val (.int .u8 (I 0)),.val (.int .u8 (I 1)),.val (.int .u8 (I 2)),.val (.int .u8 (I 3)),.val (.int .u8 (I 4)),.val (.int .u8 (I 5)),.val (.int .u8 (I 6)),.val (.int .u8 (I 7)),.val (.int .i64 fx),.val (.int .i64 fy),.val (.int .i64 tx),.val (.int .i64 ty),.val (.int .i64 r),.val st,.val (.int .i64 W),.val (.int .i64 H),.val px,.val sf,.val (.int .i64 a),.val (.int .i64 b),.val (.int .i64 c),.val (.int .i64 d),.val (.int .i64 e),.val (.int .i64 f),.val (.bool s),.val (.bool t)]
noncomputable def q4l (k fx fy tx ty r x y:Int):Int :=
  max 0 (min 65536 (if k=1 then 65536*((tx-fx)*(2*x+1-2*fx)+(ty-fy)*(2*y+1-2*fy))/(2*((tx-fx)*(tx-fx)+(ty-fy)*(ty-fy))) else (65536*q8l ((2*x+1-2*fx)*(2*x+1-2*fx)+(2*y+1-2*fy)*(2*y+1-2*fy))).tdiv (2*r)))
structure InPlace (k fx fy tx ty r x y:Int):Prop where
  kind:k=1∨k=2
  hfx:-32767≤fx∧fx≤32767
  hfy:-32767≤fy∧fy≤32767
  htx:k=1→-32767≤tx∧tx≤32767
  hty:k=1→-32767≤ty∧ty≤32767
  apart:k=1→tx-fx≠0∨ty-fy≠0
  radius:k=2→1≤r∧r≤32767
  hx:-8192≤x∧x<8192
  hy:-8192≤y∧y<8192
theorem z5s {n:Int} (h:0≤n) (k:n<17179869184):0≤q8l n∧q8l n≤131071:=by
  obtain ⟨h0,h1,h2⟩:=z4o h
  have:q8l n<131072:=q5v (by omega) (by omega)
  exact ⟨h0,by omega⟩
theorem v0g {a b:Int} (ha:0≤a) (hb:1≤b):0≤a.tdiv b∧a.tdiv b≤a:=by
  rw [Int.tdiv_eq_ediv_of_nonneg ha]
  exact ⟨Int.ediv_nonneg ha (by omega),Int.ediv_le_self _ ha⟩
set_option maxHeartbeats 2000000 in
theorem x1x {k:Int} {I:Nat→Int} {fx fy tx ty r:Int} {st:Value} {W H:Int} {px sf:Value} {a b c d e f:Int} {s t:Bool} {x y:Int} {G:Mem} (h:InPlace k fx fy tx ty r x y) :
    Gives Tryz.prog 132 [srcA k I fx fy tx ty r st W H px sf a b c d e f s t,.val (.int .i64 x),.val (.int .i64 y)] G (.val (.int .i64 (q4l k fx fy tx ty r x y))):=by
  refine q0w tab_ok Tryz.func132 ?_
  obtain ⟨h1,h2,h3,h4,h5,h6,h7,h8,h9⟩:=h
  rcases h1 with rfl |rfl
  · have h4:=h4 rfl
    have h5:=h5 rfl
    have h6:=h6 rfl
    have p1:=q3i (a:=tx-fx) (b:=2*x+1-2*fx) (A:=65534) (B:=81919) (by omega) (by omega)
    have p2:=q3i (a:=ty-fy) (b:=2*y+1-2*fy) (A:=65534) (B:=81919) (by omega) (by omega)
    have p3:=q3i (a:=tx-fx) (b:=tx-fx) (A:=65534) (B:=65534) (by omega) (by omega)
    have p4:=q3i (a:=ty-fy) (b:=ty-fy) (A:=65534) (B:=65534) (by omega) (by omega)
    have p5:1≤(tx-fx)*(tx-fx)+(ty-fy)*(ty-fy):=by
      have:=q36 (tx-fx)
      have:=q36 (ty-fy)
      rcases h6 with h6 |h6
      · have:=z5r h6;omega
      · have:=z5r h6;omega
    (repeat ((try (conv=>whnf));(refine stQ ?_)))
    refine x6b _ rfl (by omega) (by omega) ?_
    (repeat ((try (conv=>whnf));(refine stQ ?_)))
    exact ⟨by rw [q4l,if_pos rfl],rfl⟩
  · have h7:=h7 rfl
    have p1:=q3i (a:=2*x+1-2*fx) (b:=2*x+1-2*fx) (A:=81919) (B:=81919) (by omega) (by omega)
    have p2:=q3i (a:=2*y+1-2*fy) (b:=2*y+1-2*fy) (A:=81919) (B:=81919) (by omega) (by omega)
    have p3:=q36 (2*x+1-2*fx)
    have p4:=q36 (2*y+1-2*fy)
    have hs:=x4a (n:=(2*x+1-2*fx)*(2*x+1-2*fx)+(2*y+1-2*fy)*(2*y+1-2*fy)) (G:=G) (by omega)
    have p5:=z5s (n:=(2*x+1-2*fx)*(2*x+1-2*fx)+(2*y+1-2*fy)*(2*y+1-2*fy)) (by omega) (by omega)
    have p6:=v0g (a:=65536*q8l ((2*x+1-2*fx)*(2*x+1-2*fx)+(2*y+1-2*fy)*(2*y+1-2*fy))) (b:=2*r) (by omega) (by omega)
    (repeat ((try (conv=>whnf));(first |(refine stQ ?_) |(with_reducible first |refine q0b (fun vs w=>by kernel_rfl) (by kernel_rfl) (hs) ?_ |refine q0a (fun vs w=>by kernel_rfl) (by kernel_rfl) (hs) ?_))))
    exact ⟨by rw [q4l,if_neg (by omega)],rfl⟩
theorem x20 {t:Int} (h:t<0):max 0 (min 65536 t)=0:=by omega
theorem x21 {t:Int} (h:65536<t):max 0 (min 65536 t)=65536:=by omega
theorem x22 {t:Int} (h:¬ t<0) (k:¬ 65536<t):max 0 (min 65536 t)=t:=by omega
set_option maxHeartbeats 2000000 in
theorem x0j {k:Int} {I:Nat→Int} {fx fy tx ty r:Int} {st:Value} {W H:Int} {px sf:Value} {a b c d e f:Int} {s t:Bool} {x y:Int} {G:Mem} (h:InPlace k fx fy tx ty r x y) :
    Gives Tryz.prog 119 [srcA k I fx fy tx ty r st W H px sf a b c d e f s t,.val (.int .i64 x),.val (.int .i64 y)] G (.val (.int .i64 (q4l k fx fy tx ty r x y))):=by
  refine q0w tab_ok Tryz.func119 ?_
  obtain ⟨h1,h2,h3,h4,h5,h6,h7,h8,h9⟩:=h
  have e1:2*x+1-2*fx=2*(x-fx)+1:=by omega
  have e2:2*y+1-2*fy=2*(y-fy)+1:=by omega
  rcases h1 with rfl |rfl
  · have h4:=h4 rfl
    have h5:=h5 rfl
    have h6:=h6 rfl
    rw [q4l,if_pos rfl,e1,e2]
    have p1:=q3i (a:=tx-fx) (b:=2*(x-fx)+1) (A:=65534) (B:=81919) (by omega) (by omega)
    have p2:=q3i (a:=ty-fy) (b:=2*(y-fy)+1) (A:=65534) (B:=81919) (by omega) (by omega)
    have p3:=q3i (a:=tx-fx) (b:=tx-fx) (A:=65534) (B:=65534) (by omega) (by omega)
    have p4:=q3i (a:=ty-fy) (b:=ty-fy) (A:=65534) (B:=65534) (by omega) (by omega)
    have p5:1≤(tx-fx)*(tx-fx)+(ty-fy)*(ty-fy):=by
      have:=q36 (tx-fx)
      have:=q36 (ty-fy)
      rcases h6 with h6 |h6
      · have:=z5r h6;omega
      · have:=z5r h6;omega
    have hd:=q37 (a:=32768*((tx-fx)*(2*(x-fx)+1)+(ty-fy)*(2*(y-fy)+1))) (b:=(tx-fx)*(tx-fx)+(ty-fy)*(ty-fy)) (G:=G) (by omega) (by omega)
    have e3:65536*((tx-fx)*(2*(x-fx)+1)+(ty-fy)*(2*(y-fy)+1))/(2*((tx-fx)*(tx-fx)+(ty-fy)*(ty-fy)))=32768*((tx-fx)*(2*(x-fx)+1)+(ty-fy)*(2*(y-fy)+1))/((tx-fx)*(tx-fx)+(ty-fy)*(ty-fy)):=by
      rw [show 65536*((tx-fx)*(2*(x-fx)+1)+(ty-fy)*(2*(y-fy)+1))=2*(32768*((tx-fx)*(2*(x-fx)+1)+(ty-fy)*(2*(y-fy)+1))) by omega]
      exact Int.mul_ediv_mul_of_pos _ _ (by omega)
    rw [e3]
    have hq:32768*((tx-fx)*(2*(x-fx)+1)+(ty-fy)*(2*(y-fy)+1))/((tx-fx)*(tx-fx)+(ty-fy)*(ty-fy))=32768*((tx-fx)*(2*(x-fx)+1)+(ty-fy)*(2*(y-fy)+1))/((tx-fx)*(tx-fx)+(ty-fy)*(ty-fy)):=rfl
    revert hd
    generalize hQ:32768*((tx-fx)*(2*(x-fx)+1)+(ty-fy)*(2*(y-fy)+1))/((tx-fx)*(tx-fx)+(ty-fy)*(ty-fy))=Q
    clear hq e3 hQ
    intro hd
    by_cases c1:Q<0
    · (repeat ((try (conv=>whnf));(first |(refine stQ ?_) |(with_reducible first |refine q0b (fun vs w=>by kernel_rfl) (by kernel_rfl) (hd) ?_ |refine q0a (fun vs w=>by kernel_rfl) (by kernel_rfl) (hd) ?_))))
      exact ⟨by rw [x20 c1],rfl⟩
    · by_cases c2:65536<Q
      · (repeat ((try (conv=>whnf));(first |(refine stQ ?_) |(with_reducible first |refine q0b (fun vs w=>by kernel_rfl) (by kernel_rfl) (hd) ?_ |refine q0a (fun vs w=>by kernel_rfl) (by kernel_rfl) (hd) ?_))))
        exact ⟨by rw [x21 c2],rfl⟩
      · (repeat ((try (conv=>whnf));(first |(refine stQ ?_) |(with_reducible first |refine q0b (fun vs w=>by kernel_rfl) (by kernel_rfl) (hd) ?_ |refine q0a (fun vs w=>by kernel_rfl) (by kernel_rfl) (hd) ?_))))
        exact ⟨by rw [x22 c1 c2],rfl⟩
  · have h7:=h7 rfl
    rw [q4l,if_neg (by omega),e1,e2]
    have p1:=q3i (a:=2*(x-fx)+1) (b:=2*(x-fx)+1) (A:=81919) (B:=81919) (by omega) (by omega)
    have p2:=q3i (a:=2*(y-fy)+1) (b:=2*(y-fy)+1) (A:=81919) (B:=81919) (by omega) (by omega)
    have p3:=q36 (2*(x-fx)+1)
    have p4:=q36 (2*(y-fy)+1)
    have hs:=x1w (n:=(2*(x-fx)+1)*(2*(x-fx)+1)+(2*(y-fy)+1)*(2*(y-fy)+1)) (G:=G) (by omega)
    have p5:=z5s (n:=(2*(x-fx)+1)*(2*(x-fx)+1)+(2*(y-fy)+1)*(2*(y-fy)+1)) (by omega) (by omega)
    revert hs p5
    generalize q8l ((2*(x-fx)+1)*(2*(x-fx)+1)+(2*(y-fy)+1)*(2*(y-fy)+1))=R
    intro hs p5
    have hd:=q37 (a:=32768*R) (b:=r) (G:=G) (by omega) (by omega)
    have e3:(65536*R).tdiv (2*r)=32768*R/r:=by
      rw [Int.tdiv_eq_ediv_of_nonneg (by omega),show 65536*R=2*(32768*R) by omega]
      exact Int.mul_ediv_mul_of_pos _ _ (by omega)
    rw [e3]
    revert hd
    generalize hQ:32768*R/r=Q
    clear e3 hQ
    intro hd
    by_cases c1:Q<0
    · (repeat ((try (conv=>whnf));(first |(refine stQ ?_) |(with_reducible first |refine q0b (fun vs w=>by kernel_rfl) (by kernel_rfl) (hs) ?_ |refine q0a (fun vs w=>by kernel_rfl) (by kernel_rfl) (hs) ?_ |refine q0b (fun vs w=>by kernel_rfl) (by kernel_rfl) (hd) ?_ |refine q0a (fun vs w=>by kernel_rfl) (by kernel_rfl) (hd) ?_))))
      exact ⟨by rw [x20 c1],rfl⟩
    · by_cases c2:65536<Q
      · (repeat ((try (conv=>whnf));(first |(refine stQ ?_) |(with_reducible first |refine q0b (fun vs w=>by kernel_rfl) (by kernel_rfl) (hs) ?_ |refine q0a (fun vs w=>by kernel_rfl) (by kernel_rfl) (hs) ?_ |refine q0b (fun vs w=>by kernel_rfl) (by kernel_rfl) (hd) ?_ |refine q0a (fun vs w=>by kernel_rfl) (by kernel_rfl) (hd) ?_))))
        exact ⟨by rw [x21 c2],rfl⟩
      · (repeat ((try (conv=>whnf));(first |(refine stQ ?_) |(with_reducible first |refine q0b (fun vs w=>by kernel_rfl) (by kernel_rfl) (hs) ?_ |refine q0a (fun vs w=>by kernel_rfl) (by kernel_rfl) (hs) ?_ |refine q0b (fun vs w=>by kernel_rfl) (by kernel_rfl) (hd) ?_ |refine q0a (fun vs w=>by kernel_rfl) (by kernel_rfl) (hd) ?_))))
        exact ⟨by rw [x22 c1 c2],rfl⟩
end Go.Proofs.YticolnghiibgfaaGreat
