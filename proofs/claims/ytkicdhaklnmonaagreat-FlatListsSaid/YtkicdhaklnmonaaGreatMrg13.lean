/-
  Merged: XTab, XEz, XPut, XJoined, XGather, XEw, XRegM, XRegChk, XRegRef.
-/
import Derived.Test.YtkicdhaklnmonaaGreatProg
import Derived.Test.YtkicdhaklnmonaaGreatEng2
import Derived.Test.YtkicdhaklnmonaaGreatMrg4
import Derived.Test.YtkicdhaklnmonaaGreatMrg3
set_option linter.unusedVariables false
set_option linter.unusedSimpArgs false
set_option linter.unnecessarySimpa false
namespace Go.Proofs.YtkicdhaklnmonaaGreat
open Go.RowKit
def tab:Tab:=[
  (1,⟨.fn,1,8,[.nilFunc]⟩),
  (2,⟨.int .i64,1,8,[.int .i64 0]⟩),
  (3,⟨.int .i64,1,8,[.int .i64 0]⟩),
  (4,⟨.bool,1,1,[.bool false]⟩),
  (5,⟨.int .u8,1,1,[.int .u8 0]⟩),
  (9,⟨.str,1,16,[.string ByteArray.empty]⟩),
  (12,⟨.int .u64,1,8,[.int .u64 0]⟩),
  (17,⟨.ptr 235,1,8,[.pointer none]⟩),
  (20,⟨.iface,1,16,[.nilIface]⟩),
  (21,⟨.int .i32,1,4,[.int .i32 0]⟩),
  (22,⟨.slice 35,1,24,[.slice none 0 0]⟩),
  (23,⟨.fn,1,8,[.nilFunc]⟩),
  (24,⟨.slice 78,1,24,[.slice none 0 0]⟩),
  (25,⟨.int .i64,1,8,[.int .i64 0]⟩),
  (27,⟨.fn,1,8,[.nilFunc]⟩),
  (28,⟨.fn,1,8,[.nilFunc]⟩),
  (29,⟨.fn,1,8,[.nilFunc]⟩),
  (30,⟨.fn,1,8,[.nilFunc]⟩),
  (31,⟨.fn,1,8,[.nilFunc]⟩),
  (32,⟨.arr 8 5,8,8,[.int .u8 0,.int .u8 0,.int .u8 0,.int .u8 0,.int .u8 0,.int .u8 0,.int .u8 0,.int .u8 0]⟩),
  (33,⟨.arr 8 5,8,8,[.int .u8 0,.int .u8 0,.int .u8 0,.int .u8 0,.int .u8 0,.int .u8 0,.int .u8 0,.int .u8 0]⟩),
  (34,⟨.strct [(0,24),(1,33)],9,32,[.slice none 0 0,.int .u8 0,.int .u8 0,.int .u8 0,.int .u8 0,.int .u8 0,.int .u8 0,.int .u8 0,.int .u8 0]⟩),
  (35,⟨.strct [(0,24),(1,33)],9,32,[.slice none 0 0,.int .u8 0,.int .u8 0,.int .u8 0,.int .u8 0,.int .u8 0,.int .u8 0,.int .u8 0,.int .u8 0]⟩),
  (36,⟨.fn,1,8,[.nilFunc]⟩),
  (37,⟨.fn,1,8,[.nilFunc]⟩),
  (38,⟨.slice 33,1,24,[.slice none 0 0]⟩),
  (39,⟨.fn,1,8,[.nilFunc]⟩),
  (41,⟨.fn,1,8,[.nilFunc]⟩),
  (43,⟨.fn,1,8,[.nilFunc]⟩),
  (44,⟨.fn,1,8,[.nilFunc]⟩),
  (45,⟨.fn,1,8,[.nilFunc]⟩),
  (46,⟨.slice 9,1,24,[.slice none 0 0]⟩),
  (47,⟨.slice 63,1,24,[.slice none 0 0]⟩),
  (48,⟨.strct [(0,3),(1,3),(2,46),(3,47)],4,64,[.int .i64 0,.int .i64 0,.slice none 0 0,.slice none 0 0]⟩),
  (49,⟨.strct [(0,3),(1,3),(2,46),(3,47)],4,64,[.int .i64 0,.int .i64 0,.slice none 0 0,.slice none 0 0]⟩),
  (51,⟨.fn,1,8,[.nilFunc]⟩),
  (52,⟨.strct [(0,3),(1,3)],2,16,[.int .i64 0,.int .i64 0]⟩),
  (53,⟨.strct [(0,3),(1,3)],2,16,[.int .i64 0,.int .i64 0]⟩),
  (54,⟨.slice 141,1,24,[.slice none 0 0]⟩),
  (55,⟨.slice 5,1,24,[.slice none 0 0]⟩),
  (56,⟨.strct [(0,3),(1,3),(2,3),(3,3),(4,3),(5,3)],6,48,[.int .i64 0,.int .i64 0,.int .i64 0,.int .i64 0,.int .i64 0,.int .i64 0]⟩),
  (57,⟨.strct [(0,3),(1,3),(2,3),(3,3),(4,3),(5,3)],6,48,[.int .i64 0,.int .i64 0,.int .i64 0,.int .i64 0,.int .i64 0,.int .i64 0]⟩),
  (58,⟨.strct [(0,3),(1,3),(2,38),(3,55),(4,57),(10,4),(11,4)],12,120,[.int .i64 0,.int .i64 0,.slice none 0 0,.slice none 0 0,.int .i64 0,.int .i64 0,.int .i64 0,.int .i64 0,.int .i64 0,.int .i64 0,.bool false,.bool false]⟩),
  (59,⟨.strct [(0,3),(1,3),(2,38),(3,55),(4,57),(10,4),(11,4)],12,120,[.int .i64 0,.int .i64 0,.slice none 0 0,.slice none 0 0,.int .i64 0,.int .i64 0,.int .i64 0,.int .i64 0,.int .i64 0,.int .i64 0,.bool false,.bool false]⟩),
  (60,⟨.strct [(0,3),(1,33),(9,53),(11,53),(13,3),(14,54),(15,59)],27,200,[.int .i64 0,.int .u8 0,.int .u8 0,.int .u8 0,.int .u8 0,.int .u8 0,.int .u8 0,.int .u8 0,.int .u8 0,.int .i64 0,.int .i64 0,.int .i64 0,.int .i64 0,.int .i64 0,.slice none 0 0,.int .i64 0,.int .i64 0,.slice none 0 0,.slice none 0 0,.int .i64 0,.int .i64 0,.int .i64 0,.int .i64 0,.int .i64 0,.int .i64 0,.bool false,.bool false]⟩),
  (61,⟨.strct [(0,3),(1,33),(9,53),(11,53),(13,3),(14,54),(15,59)],27,200,[.int .i64 0,.int .u8 0,.int .u8 0,.int .u8 0,.int .u8 0,.int .u8 0,.int .u8 0,.int .u8 0,.int .u8 0,.int .i64 0,.int .i64 0,.int .i64 0,.int .i64 0,.int .i64 0,.slice none 0 0,.int .i64 0,.int .i64 0,.slice none 0 0,.slice none 0 0,.int .i64 0,.int .i64 0,.int .i64 0,.int .i64 0,.int .i64 0,.int .i64 0,.bool false,.bool false]⟩),
  (62,⟨.strct [(0,3),(1,24),(2,61),(29,5),(30,3),(31,4),(32,4),(33,4)],34,256,[.int .i64 0,.slice none 0 0,.int .i64 0,.int .u8 0,.int .u8 0,.int .u8 0,.int .u8 0,.int .u8 0,.int .u8 0,.int .u8 0,.int .u8 0,.int .i64 0,.int .i64 0,.int .i64 0,.int .i64 0,.int .i64 0,.slice none 0 0,.int .i64 0,.int .i64 0,.slice none 0 0,.slice none 0 0,.int .i64 0,.int .i64 0,.int .i64 0,.int .i64 0,.int .i64 0,.int .i64 0,.bool false,.bool false,.int .u8 0,.int .i64 0,.bool false,.bool false,.bool false]⟩),
  (63,⟨.strct [(0,3),(1,24),(2,61),(29,5),(30,3),(31,4),(32,4),(33,4)],34,256,[.int .i64 0,.slice none 0 0,.int .i64 0,.int .u8 0,.int .u8 0,.int .u8 0,.int .u8 0,.int .u8 0,.int .u8 0,.int .u8 0,.int .u8 0,.int .i64 0,.int .i64 0,.int .i64 0,.int .i64 0,.int .i64 0,.slice none 0 0,.int .i64 0,.int .i64 0,.slice none 0 0,.slice none 0 0,.int .i64 0,.int .i64 0,.int .i64 0,.int .i64 0,.int .i64 0,.int .i64 0,.bool false,.bool false,.int .u8 0,.int .i64 0,.bool false,.bool false,.bool false]⟩),
  (64,⟨.fn,1,8,[.nilFunc]⟩),
  (65,⟨.fn,1,8,[.nilFunc]⟩),
  (66,⟨.fn,1,8,[.nilFunc]⟩),
  (67,⟨.fn,1,8,[.nilFunc]⟩),
  (69,⟨.fn,1,8,[.nilFunc]⟩),
  (70,⟨.fn,1,8,[.nilFunc]⟩),
  (71,⟨.fn,1,8,[.nilFunc]⟩),
  (72,⟨.fn,1,8,[.nilFunc]⟩),
  (73,⟨.fn,1,8,[.nilFunc]⟩),
  (74,⟨.fn,1,8,[.nilFunc]⟩),
  (75,⟨.fn,1,8,[.nilFunc]⟩),
  (76,⟨.fn,1,8,[.nilFunc]⟩),
  (77,⟨.strct [(0,3),(1,3),(2,3)],3,24,[.int .i64 0,.int .i64 0,.int .i64 0]⟩),
  (78,⟨.strct [(0,3),(1,3),(2,3)],3,24,[.int .i64 0,.int .i64 0,.int .i64 0]⟩),
  (79,⟨.slice 3,1,24,[.slice none 0 0]⟩),
  (80,⟨.fn,1,8,[.nilFunc]⟩),
  (81,⟨.fn,1,8,[.nilFunc]⟩),
  (82,⟨.fn,1,8,[.nilFunc]⟩),
  (83,⟨.fn,1,8,[.nilFunc]⟩),
  (84,⟨.ptr 103,1,8,[.pointer none]⟩),
  (85,⟨.fn,1,8,[.nilFunc]⟩),
  (86,⟨.fn,1,8,[.nilFunc]⟩),
  (87,⟨.fn,1,8,[.nilFunc]⟩),
  (88,⟨.fn,1,8,[.nilFunc]⟩),
  (89,⟨.fn,1,8,[.nilFunc]⟩),
  (90,⟨.fn,1,8,[.nilFunc]⟩),
  (91,⟨.fn,1,8,[.nilFunc]⟩),
  (92,⟨.ptr 146,1,8,[.pointer none]⟩),
  (93,⟨.strct [(0,92),(1,3)],2,16,[.pointer none,.int .i64 0]⟩),
  (94,⟨.strct [(0,92),(1,3)],2,16,[.pointer none,.int .i64 0]⟩),
  (95,⟨.fn,1,8,[.nilFunc]⟩),
  (96,⟨.fn,1,8,[.nilFunc]⟩),
  (98,⟨.fn,1,8,[.nilFunc]⟩),
  (99,⟨.fn,1,8,[.nilFunc]⟩),
  (100,⟨.mapT 33 3,1,8,[.map none]⟩),
  (101,⟨.slice 106,1,24,[.slice none 0 0]⟩),
  (102,⟨.strct [(0,100),(1,101),(2,38),(3,4)],4,64,[.map none,.slice none 0 0,.slice none 0 0,.bool false]⟩),
  (103,⟨.strct [(0,100),(1,101),(2,38),(3,4)],4,64,[.map none,.slice none 0 0,.slice none 0 0,.bool false]⟩),
  (104,⟨.fn,1,8,[.nilFunc]⟩),
  (105,⟨.strct [(0,24)],1,24,[.slice none 0 0]⟩),
  (106,⟨.strct [(0,24)],1,24,[.slice none 0 0]⟩),
  (107,⟨.fn,1,8,[.nilFunc]⟩),
  (108,⟨.fn,1,8,[.nilFunc]⟩),
  (109,⟨.fn,1,8,[.nilFunc]⟩),
  (111,⟨.fn,1,8,[.nilFunc]⟩),
  (112,⟨.fn,1,8,[.nilFunc]⟩),
  (113,⟨.fn,1,8,[.nilFunc]⟩),
  (114,⟨.fn,1,8,[.nilFunc]⟩),
  (115,⟨.slice 117,1,24,[.slice none 0 0]⟩),
  (116,⟨.strct [(0,5),(1,33)],9,9,[.int .u8 0,.int .u8 0,.int .u8 0,.int .u8 0,.int .u8 0,.int .u8 0,.int .u8 0,.int .u8 0,.int .u8 0]⟩),
  (117,⟨.strct [(0,5),(1,33)],9,9,[.int .u8 0,.int .u8 0,.int .u8 0,.int .u8 0,.int .u8 0,.int .u8 0,.int .u8 0,.int .u8 0,.int .u8 0]⟩),
  (118,⟨.fn,1,8,[.nilFunc]⟩),
  (119,⟨.strct [(0,3),(1,3),(2,3)],3,24,[.int .i64 0,.int .i64 0,.int .i64 0]⟩),
  (120,⟨.strct [(0,3),(1,3),(2,3)],3,24,[.int .i64 0,.int .i64 0,.int .i64 0]⟩),
  (121,⟨.fn,1,8,[.nilFunc]⟩),
  (122,⟨.fn,1,8,[.nilFunc]⟩),
  (123,⟨.slice 125,1,24,[.slice none 0 0]⟩),
  (124,⟨.strct [(0,78),(3,3)],4,32,[.int .i64 0,.int .i64 0,.int .i64 0,.int .i64 0]⟩),
  (125,⟨.strct [(0,78),(3,3)],4,32,[.int .i64 0,.int .i64 0,.int .i64 0,.int .i64 0]⟩),
  (126,⟨.fn,1,8,[.nilFunc]⟩),
  (127,⟨.fn,1,8,[.nilFunc]⟩),
  (128,⟨.fn,1,8,[.nilFunc]⟩),
  (129,⟨.slice 4,1,24,[.slice none 0 0]⟩),
  (130,⟨.fn,1,8,[.nilFunc]⟩),
  (131,⟨.fn,1,8,[.nilFunc]⟩),
  (132,⟨.fn,1,8,[.nilFunc]⟩),
  (133,⟨.fn,1,8,[.nilFunc]⟩),
  (134,⟨.fn,1,8,[.nilFunc]⟩),
  (135,⟨.fn,1,8,[.nilFunc]⟩),
  (136,⟨.fn,1,8,[.nilFunc]⟩),
  (137,⟨.fn,1,8,[.nilFunc]⟩),
  (138,⟨.fn,1,8,[.nilFunc]⟩),
  (139,⟨.fn,1,8,[.nilFunc]⟩),
  (140,⟨.strct [(0,3),(1,33)],9,16,[.int .i64 0,.int .u8 0,.int .u8 0,.int .u8 0,.int .u8 0,.int .u8 0,.int .u8 0,.int .u8 0,.int .u8 0]⟩),
  (141,⟨.strct [(0,3),(1,33)],9,16,[.int .i64 0,.int .u8 0,.int .u8 0,.int .u8 0,.int .u8 0,.int .u8 0,.int .u8 0,.int .u8 0,.int .u8 0]⟩),
  (142,⟨.int .u64,1,8,[.int .u64 0]⟩),
  (143,⟨.fn,1,8,[.nilFunc]⟩),
  (144,⟨.slice 156,1,24,[.slice none 0 0]⟩),
  (145,⟨.strct [(0,63),(34,3),(35,143),(36,144)],37,296,[.int .i64 0,.slice none 0 0,.int .i64 0,.int .u8 0,.int .u8 0,.int .u8 0,.int .u8 0,.int .u8 0,.int .u8 0,.int .u8 0,.int .u8 0,.int .i64 0,.int .i64 0,.int .i64 0,.int .i64 0,.int .i64 0,.slice none 0 0,.int .i64 0,.int .i64 0,.slice none 0 0,.slice none 0 0,.int .i64 0,.int .i64 0,.int .i64 0,.int .i64 0,.int .i64 0,.int .i64 0,.bool false,.bool false,.int .u8 0,.int .i64 0,.bool false,.bool false,.bool false,.int .i64 0,.nilFunc,.slice none 0 0]⟩),
  (146,⟨.strct [(0,63),(34,3),(35,143),(36,144)],37,296,[.int .i64 0,.slice none 0 0,.int .i64 0,.int .u8 0,.int .u8 0,.int .u8 0,.int .u8 0,.int .u8 0,.int .u8 0,.int .u8 0,.int .u8 0,.int .i64 0,.int .i64 0,.int .i64 0,.int .i64 0,.int .i64 0,.slice none 0 0,.int .i64 0,.int .i64 0,.slice none 0 0,.slice none 0 0,.int .i64 0,.int .i64 0,.int .i64 0,.int .i64 0,.int .i64 0,.int .i64 0,.bool false,.bool false,.int .u8 0,.int .i64 0,.bool false,.bool false,.bool false,.int .i64 0,.nilFunc,.slice none 0 0]⟩),
  (147,⟨.slice 92,1,24,[.slice none 0 0]⟩),
  (148,⟨.ptr 153,1,8,[.pointer none]⟩),
  (149,⟨.fn,1,8,[.nilFunc]⟩),
  (150,⟨.fn,1,8,[.nilFunc]⟩),
  (151,⟨.fn,1,8,[.nilFunc]⟩),
  (152,⟨.strct [(0,63),(34,3),(35,149),(36,143)],37,280,[.int .i64 0,.slice none 0 0,.int .i64 0,.int .u8 0,.int .u8 0,.int .u8 0,.int .u8 0,.int .u8 0,.int .u8 0,.int .u8 0,.int .u8 0,.int .i64 0,.int .i64 0,.int .i64 0,.int .i64 0,.int .i64 0,.slice none 0 0,.int .i64 0,.int .i64 0,.slice none 0 0,.slice none 0 0,.int .i64 0,.int .i64 0,.int .i64 0,.int .i64 0,.int .i64 0,.int .i64 0,.bool false,.bool false,.int .u8 0,.int .i64 0,.bool false,.bool false,.bool false,.int .i64 0,.nilFunc,.nilFunc]⟩),
  (153,⟨.strct [(0,63),(34,3),(35,149),(36,143)],37,280,[.int .i64 0,.slice none 0 0,.int .i64 0,.int .u8 0,.int .u8 0,.int .u8 0,.int .u8 0,.int .u8 0,.int .u8 0,.int .u8 0,.int .u8 0,.int .i64 0,.int .i64 0,.int .i64 0,.int .i64 0,.int .i64 0,.slice none 0 0,.int .i64 0,.int .i64 0,.slice none 0 0,.slice none 0 0,.int .i64 0,.int .i64 0,.int .i64 0,.int .i64 0,.int .i64 0,.int .i64 0,.bool false,.bool false,.int .u8 0,.int .i64 0,.bool false,.bool false,.bool false,.int .i64 0,.nilFunc,.nilFunc]⟩),
  (154,⟨.fn,1,8,[.nilFunc]⟩),
  (155,⟨.iface,1,16,[.nilIface]⟩),
  (156,⟨.iface,1,16,[.nilIface]⟩),
  (157,⟨.fn,1,8,[.nilFunc]⟩),
  (159,⟨.fn,1,8,[.nilFunc]⟩),
  (160,⟨.fn,1,8,[.nilFunc]⟩),
  (161,⟨.fn,1,8,[.nilFunc]⟩),
  (162,⟨.fn,1,8,[.nilFunc]⟩),
  (163,⟨.fn,1,8,[.nilFunc]⟩),
  (164,⟨.fn,1,8,[.nilFunc]⟩),
  (165,⟨.fn,1,8,[.nilFunc]⟩),
  (166,⟨.ptr 106,1,8,[.pointer none]⟩),
  (168,⟨.fn,1,8,[.nilFunc]⟩),
  (169,⟨.fn,1,8,[.nilFunc]⟩),
  (170,⟨.fn,1,8,[.nilFunc]⟩),
  (171,⟨.strct [(0,59),(12,57)],18,168,[.int .i64 0,.int .i64 0,.slice none 0 0,.slice none 0 0,.int .i64 0,.int .i64 0,.int .i64 0,.int .i64 0,.int .i64 0,.int .i64 0,.bool false,.bool false,.int .i64 0,.int .i64 0,.int .i64 0,.int .i64 0,.int .i64 0,.int .i64 0]⟩),
  (172,⟨.strct [(0,59),(12,57)],18,168,[.int .i64 0,.int .i64 0,.slice none 0 0,.slice none 0 0,.int .i64 0,.int .i64 0,.int .i64 0,.int .i64 0,.int .i64 0,.int .i64 0,.bool false,.bool false,.int .i64 0,.int .i64 0,.int .i64 0,.int .i64 0,.int .i64 0,.int .i64 0]⟩),
  (173,⟨.fn,1,8,[.nilFunc]⟩),
  (174,⟨.fn,1,8,[.nilFunc]⟩),
  (176,⟨.fn,1,8,[.nilFunc]⟩),
  (177,⟨.fn,1,8,[.nilFunc]⟩),
  (178,⟨.fn,1,8,[.nilFunc]⟩),
  (179,⟨.fn,1,8,[.nilFunc]⟩),
  (180,⟨.fn,1,8,[.nilFunc]⟩),
  (181,⟨.fn,1,8,[.nilFunc]⟩),
  (182,⟨.fn,1,8,[.nilFunc]⟩),
  (183,⟨.int .i64,1,8,[.int .i64 0]⟩),
  (185,⟨.fn,1,8,[.nilFunc]⟩),
  (186,⟨.fn,1,8,[.nilFunc]⟩),
  (187,⟨.fn,1,8,[.nilFunc]⟩),
  (188,⟨.fn,1,8,[.nilFunc]⟩),
  (189,⟨.fn,1,8,[.nilFunc]⟩),
  (190,⟨.int .u32,1,4,[.int .u32 0]⟩),
  (191,⟨.fn,1,8,[.nilFunc]⟩),
  (192,⟨.int .u64,1,8,[.int .u64 0]⟩),
  (193,⟨.fn,1,8,[.nilFunc]⟩),
  (194,⟨.fn,1,8,[.nilFunc]⟩),
  (195,⟨.fn,1,8,[.nilFunc]⟩),
  (196,⟨.fn,1,8,[.nilFunc]⟩),
  (197,⟨.fn,1,8,[.nilFunc]⟩),
  (198,⟨.fn,1,8,[.nilFunc]⟩),
  (199,⟨.fn,1,8,[.nilFunc]⟩),
  (200,⟨.fn,1,8,[.nilFunc]⟩),
  (201,⟨.fn,1,8,[.nilFunc]⟩),
  (202,⟨.fn,1,8,[.nilFunc]⟩),
  (203,⟨.arr 12 112,12,96,[.nilFunc,.nilFunc,.nilFunc,.nilFunc,.nilFunc,.nilFunc,.nilFunc,.nilFunc,.nilFunc,.nilFunc,.nilFunc,.nilFunc]⟩),
  (204,⟨.fn,1,8,[.nilFunc]⟩),
  (205,⟨.fn,1,8,[.nilFunc]⟩),
  (207,⟨.fn,1,8,[.nilFunc]⟩),
  (208,⟨.fn,1,8,[.nilFunc]⟩),
  (209,⟨.fn,1,8,[.nilFunc]⟩),
  (210,⟨.ptr 3,1,8,[.pointer none]⟩),
  (211,⟨.fn,1,8,[.nilFunc]⟩),
  (212,⟨.fn,1,8,[.nilFunc]⟩),
  (213,⟨.fn,1,8,[.nilFunc]⟩),
  (214,⟨.fn,1,8,[.nilFunc]⟩),
  (215,⟨.arr 8 3,8,64,[.int .i64 0,.int .i64 0,.int .i64 0,.int .i64 0,.int .i64 0,.int .i64 0,.int .i64 0,.int .i64 0]⟩),
  (216,⟨.arr 4 3,4,32,[.int .i64 0,.int .i64 0,.int .i64 0,.int .i64 0]⟩),
  (219,⟨.fn,1,8,[.nilFunc]⟩),
  (220,⟨.fn,1,8,[.nilFunc]⟩),
  (221,⟨.fn,1,8,[.nilFunc]⟩),
  (227,⟨.fn,1,8,[.nilFunc]⟩),
  (230,⟨.fn,1,8,[.nilFunc]⟩),
  (231,⟨.ptr 5,1,8,[.pointer none]⟩),
  (234,⟨.strct [(0,12),(1,12),(2,190),(3,228),(4,5),(5,5),(6,229),(7,230),(8,231),(9,232),(10,233)],11,48,[.int .u64 0,.int .u64 0,.int .u32 0,.int .u8 0,.int .u8 0,.int .u8 0,.int .u8 0,.nilFunc,.pointer none,.int .i32 0,.int .i32 0]⟩)]
set_option maxRecDepth 100000 in
theorem tab_ok:TOk Tryz.prog tab:=by unfold TOk;kernel_rfl
theorem eq33 {x y:Operand} {l m:List AV} {K:Bool→Prop} (h:q1o l fun xs=>q1o m fun ys=>q0o (q0t [.int .u8,.int .u8,.int .u8,.int .u8,.int .u8,.int .u8,.int .u8,.int .u8] xs) (q0o (q0t [.int .u8,.int .u8,.int .u8,.int .u8,.int .u8,.int .u8,.int .u8,.int .u8] ys) (q3y xs ys K))):EqP Tryz.prog 33 x y (.agg l) (.agg m) K:=q6v (ks:=[.int .u8,.int .u8,.int .u8,.int .u8,.int .u8,.int .u8,.int .u8,.int .u8]) (by kernel_rfl) (by kernel_rfl) (by kernel_rfl) h
theorem eq53 {x y:Operand} {l m:List AV} {K:Bool→Prop} (h:q1o l fun xs=>q1o m fun ys=>q0o (q0t [.int .i64,.int .i64] xs) (q0o (q0t [.int .i64,.int .i64] ys) (q3y xs ys K))):EqP Tryz.prog 53 x y (.agg l) (.agg m) K:=q6v (ks:=[.int .i64,.int .i64]) (by kernel_rfl) (by kernel_rfl) (by kernel_rfl) h
theorem eq57 {x y:Operand} {l m:List AV} {K:Bool→Prop} (h:q1o l fun xs=>q1o m fun ys=>q0o (q0t [.int .i64,.int .i64,.int .i64,.int .i64,.int .i64,.int .i64] xs) (q0o (q0t [.int .i64,.int .i64,.int .i64,.int .i64,.int .i64,.int .i64] ys) (q3y xs ys K))):EqP Tryz.prog 57 x y (.agg l) (.agg m) K:=q6v (ks:=[.int .i64,.int .i64,.int .i64,.int .i64,.int .i64,.int .i64]) (by kernel_rfl) (by kernel_rfl) (by kernel_rfl) h
theorem eq78 {x y:Operand} {l m:List AV} {K:Bool→Prop} (h:q1o l fun xs=>q1o m fun ys=>q0o (q0t [.int .i64,.int .i64,.int .i64] xs) (q0o (q0t [.int .i64,.int .i64,.int .i64] ys) (q3y xs ys K))):EqP Tryz.prog 78 x y (.agg l) (.agg m) K:=q6v (ks:=[.int .i64,.int .i64,.int .i64]) (by kernel_rfl) (by kernel_rfl) (by kernel_rfl) h
theorem v0d {x y:Operand} {l m:List AV} {K:Bool→Prop} (h:q1o l fun xs=>q1o m fun ys=>q0o (q0t [.int .u8,.int .u8,.int .u8,.int .u8,.int .u8,.int .u8,.int .u8,.int .u8,.int .u8] xs) (q0o (q0t [.int .u8,.int .u8,.int .u8,.int .u8,.int .u8,.int .u8,.int .u8,.int .u8,.int .u8] ys) (q3y xs ys K))):EqP Tryz.prog 117 x y (.agg l) (.agg m) K:=q6v (ks:=[.int .u8,.int .u8,.int .u8,.int .u8,.int .u8,.int .u8,.int .u8,.int .u8,.int .u8]) (by kernel_rfl) (by kernel_rfl) (by kernel_rfl) h
theorem v0e {x y:Operand} {l m:List AV} {K:Bool→Prop} (h:q1o l fun xs=>q1o m fun ys=>q0o (q0t [.int .i64,.int .i64,.int .i64] xs) (q0o (q0t [.int .i64,.int .i64,.int .i64] ys) (q3y xs ys K))):EqP Tryz.prog 120 x y (.agg l) (.agg m) K:=q6v (ks:=[.int .i64,.int .i64,.int .i64]) (by kernel_rfl) (by kernel_rfl) (by kernel_rfl) h
theorem v0f {x y:Operand} {l m:List AV} {K:Bool→Prop} (h:q1o l fun xs=>q1o m fun ys=>q0o (q0t [.int .i64,.int .i64,.int .i64,.int .i64] xs) (q0o (q0t [.int .i64,.int .i64,.int .i64,.int .i64] ys) (q3y xs ys K))):EqP Tryz.prog 125 x y (.agg l) (.agg m) K:=q6v (ks:=[.int .i64,.int .i64,.int .i64,.int .i64]) (by kernel_rfl) (by kernel_rfl) (by kernel_rfl) h
theorem v0g {x y:Operand} {l m:List AV} {K:Bool→Prop} (h:q1o l fun xs=>q1o m fun ys=>q0o (q0t [.int .i64,.int .u8,.int .u8,.int .u8,.int .u8,.int .u8,.int .u8,.int .u8,.int .u8] xs) (q0o (q0t [.int .i64,.int .u8,.int .u8,.int .u8,.int .u8,.int .u8,.int .u8,.int .u8,.int .u8] ys) (q3y xs ys K))):EqP Tryz.prog 141 x y (.agg l) (.agg m) K:=q6v (ks:=[.int .i64,.int .u8,.int .u8,.int .u8,.int .u8,.int .u8,.int .u8,.int .u8,.int .u8]) (by kernel_rfl) (by kernel_rfl) (by kernel_rfl) h
theorem stQ {p q:Prop} (k:q) (h:q→p:=by first |(with_reducible exact z1a) |(with_reducible exact z0m) |(with_reducible exact z8a) |(with_reducible exact z8b) |((with_reducible refine z90 ?_);(· omega)) |((with_reducible refine z91 ?_);(· omega)) |((with_reducible refine q77 ?_);(· assumption)) |((with_reducible refine q1l ?_);(· assumption)) |((with_reducible refine x25 ?_);(· omega)) |((with_reducible refine mustP.mk ?_);(· first |omega |rfl |(dsimp only;omega))) |(with_reducible exact x3i tab_ok) |(with_reducible exact x3j tab_ok) |(with_reducible exact x0i) |(with_reducible exact z5m tab_ok) |(with_reducible exact x0j tab_ok) |((with_reducible refine z4b tab_ok ?_);(· rfl)) |(with_reducible exact z5w tab_ok (by kernel_rfl) (by decide +kernel)) |(with_reducible exact x2c tab_ok (by kernel_rfl) (by decide +kernel)) |(with_reducible exact eq33) |(with_reducible exact eq53) |(with_reducible exact eq57) |(with_reducible exact eq78) |(with_reducible exact v0d) |(with_reducible exact v0e) |(with_reducible exact v0f) |(with_reducible exact v0g)):p:=h k
theorem s3Q {p q:Prop} (k:q) (h:q→p:=by first |(with_reducible exact z1a) |(with_reducible exact z0m) |(with_reducible exact z8a) |(with_reducible exact z8b) |((with_reducible refine z90 ?_);(· omega)) |((with_reducible refine z91 ?_);(· omega)) |((with_reducible refine q77 ?_);(· assumption)) |((with_reducible refine q1l ?_);(· assumption)) |((with_reducible refine x25 ?_);(· omega)) |((with_reducible refine mustP.mk ?_);(· first |omega |rfl |(dsimp only;omega))) |(with_reducible exact x3i tab_ok) |(with_reducible exact x3j tab_ok) |(with_reducible exact x0i) |(with_reducible exact z5m tab_ok) |(with_reducible exact x0j tab_ok) |((with_reducible refine z4b tab_ok ?_);(· rfl)) |(with_reducible exact z5w tab_ok (by kernel_rfl) (by decide +kernel)) |(with_reducible exact x2d tab_ok (by kernel_rfl) (by decide +kernel)) |(with_reducible exact eq33) |(with_reducible exact eq53) |(with_reducible exact eq57) |(with_reducible exact eq78) |(with_reducible exact v0d) |(with_reducible exact v0e) |(with_reducible exact v0f) |(with_reducible exact v0g)):p:=h k
theorem flQ {p:Prop} (h:p:=by repeat (first |(with_reducible exact z4u) |(with_reducible first |refine x8d ?_ |refine x8e ?_) |((with_reducible refine z67 rfl ?_ ?_);(· rfl)) |((with_reducible refine q8c (x56 ?_) ?_ ?_);(· omega);(· rfl)) |((with_reducible refine q8c (x56 ?_) ?_ ?_);(· simp only [Int.natCast_add,Int.natCast_one,Int.natCast_ofNat] <;> omega);(· rfl)) |((with_reducible refine q8c (v0r ?_) ?_ ?_);(· first |assumption |(symm;assumption));(· rfl)))):p:=h
end Go.Proofs.YtkicdhaklnmonaaGreat
namespace Go.Proofs.YtkicdhaklnmonaaGreat
open Go.RowKit
theorem q50 {P:Program} {T:Tab} (hT:TOk P T) {n0:Nat} {b:Code} {fr:List AV} {hp:List Blk} {G:Mem} {Q:Post} {ι κ:Type} (inv:ι→κ→Prop) (S:ι→κ→List (Nat × AV)) (H:ι→κ→List Blk) (μ:ι→κ→Nat) (i0:ι) (k0:κ) (h0:inv i0 k0)
    (start:Le n0 fr hp G (q5e b fr (S i0 k0)) (H i0 k0) G)
    (round:∀ i k,inv i k→q7z (q3i b []) fun ws=>q6f ws 0 fr fun fr1=>q5g fr1 (S i k) fun fr2=>q91 P T n0 b fr2 (H i k) G fun e fr' hp' G'=>match e with
      | .normal=>∃ i' k',inv i' k'∧μ i' k'<μ i k∧Le n0 fr' hp' G' (q5e b fr (S i' k')) (H i' k') G
      | e=>Q e fr' hp' G'):LoopP P n0 b fr hp G Q:=by
  refine z4r hT (fun i:ι × κ=>inv i.1 i.2) (fun i=>q5e b fr (S i.1 i.2)) (fun i=>H i.1 i.2) (fun _=>G) (fun i=>μ i.1 i.2) ⟨(i0,k0),h0,start⟩ fun i hi=>?_
  have h:=round i.1 i.2 hi
  rw [q5y,q4z,q39] at h
  refine cast (congrArg _ ?_) h
  funext e fr' hp' G'
  cases e with
  | normal=>exact propext ⟨fun ⟨i',k',h1,h2,h3⟩=>⟨(i',k'),h1,h2,h3⟩,fun ⟨p,h1,h2,h3⟩=>⟨p.1,p.2,h1,h2,h3⟩⟩
  | _=>rfl
theorem x6r {P:Program} {T:Tab} (hT:TOk P T) {n0:Nat} {b:Code} {fr:List AV} {hp:List Blk} {G:Mem} {Q:Post} {ι κ ν:Type} (inv:ι→κ→ν→Prop) (S:ι→κ→ν→List (Nat × AV)) (H:ι→κ→ν→List Blk) (μ:ι→κ→ν→Nat) (i0:ι) (k0:κ) (m0:ν) (h0:inv i0 k0 m0)
    (start:Le n0 fr hp G (q5e b fr (S i0 k0 m0)) (H i0 k0 m0) G)
    (round:∀ i k m,inv i k m→q7z (q3i b []) fun ws=>q6f ws 0 fr fun fr1=>q5g fr1 (S i k m) fun fr2=>q91 P T n0 b fr2 (H i k m) G fun e fr' hp' G'=>match e with
      | .normal=>∃ i' k' m',inv i' k' m'∧μ i' k' m'<μ i k m∧Le n0 fr' hp' G' (q5e b fr (S i' k' m')) (H i' k' m') G
      | e=>Q e fr' hp' G'):LoopP P n0 b fr hp G Q:=by
  refine q50 hT (fun (i:ι) (q:κ × ν)=>inv i q.1 q.2) (fun i q=>S i q.1 q.2) (fun i q=>H i q.1 q.2) (fun i q=>μ i q.1 q.2) i0 (k0,m0) h0 start fun i q hi=>?_
  have h:=round i q.1 q.2 hi
  rw [q5y,q4z,q39] at h ⊢
  refine cast (congrArg _ ?_) h
  funext e fr' hp' G'
  cases e with
  | normal=>exact propext ⟨fun ⟨i',k',m',h1,h2,h3⟩=>⟨i',(k',m'),h1,h2,h3⟩,fun ⟨i',p,h1,h2,h3⟩=>⟨i',p.1,p.2,h1,h2,h3⟩⟩
  | _=>rfl
def q27 (w:World) (o:Option Nat):Mem:=fun b=>if o=some b then none else w.heap[b]?
theorem x00 {P:Program} {T:Tab} (hT:TOk P T) {f:FuncId} {fn:Func} (hfn:P.funcs[f]? = some fn) {post:List AV} {G:Mem} {E:TypeId} {sz n:Nat} {xs:List Value} {n':Nat} {xs':List Value} (hn':0<n')
    (h:∀ G',G.le G'→q32 P T 1 fn (.own 0::post) [.own E sz n xs] G' fun v hp' _=>∃ k,v=.own k∧nthB hp' k=.own E sz n' xs'):z3k P f post G E sz n xs n' xs':=by
  intro base w v ts hG hown hbase hfree hts
  have hle:G.le (q27 w (q0h v)):=fun b o hb=>by
    unfold q27
    by_cases h1:q0h v=some b
    · rw [hfree b h1] at hb;cases hb
    · rw [if_neg h1];exact hG b o hb
  have hmb:∀ b o,q27 w (q0h v) b=some o→w.heap[b]? = some o:=fun b o hb=>by
    unfold q27 at hb
    split at hb
    · cases hb
    · exact hb
  have hsl:=q16 hown
  have hw0:Below base {w with heap:=w.heap.extract 0 base} w:=by
    refine ⟨rfl,rfl,rfl,?_,fun k hk=>?_⟩
    · simp;omega
    · show w.heap[k]? = (w.heap.extract 0 base)[k]?
      rw [Array.getElem?_extract];simp;intro h;omega
  have hsz:({w with heap:=w.heap.extract 0 base}:World).heap.size=base:=by
    show (w.heap.extract 0 base).size=base
    simp;omega
  have hr:HR {w with heap:=w.heap.extract 0 base} (q27 w (q0h v)) (fun k=>if k=0 then some v else none) [.own E sz n xs] (q27 w (q0h v)) w:=by
    refine ⟨by rw [hsz];exact hw0,hmb,Mem.le_refl _,fun b o hb=>.inl hb,fun k y hk=>?_,fun k k' y y' x x' b hne hk hk'=>?_,fun k S hk=>(by cases k <;> simp at hk)⟩
    · by_cases h0:k=0
      · subst h0
        simp at hk;subst hk
        refine ⟨_,rfl,?_⟩
        rw [hsz]
        refine ⟨hown,fun g hg=>?_⟩
        unfold q27;rw [if_pos hg]
      · simp [h0] at hk
    · by_cases h0:k=0
      · have:k'≠0:=by omega
        simp [this] at hk'
      · simp [h0] at hk
  refine (q5t hT hfn (hp:=[.own E sz n xs]) (h _ hle) (.inr fun _ _ _ _ _ h=>h) _ _ _ w (v::ts).toArray hr ?_).mono ?_
  · simp only [AV.rels]
    refine ⟨v,ts,rfl,?_,AV.rels_mono (q3s _) _ _ hts⟩
    simp only [AV.rel];exact ⟨by simp,hsl⟩
  · rintro e w' ⟨y,β',v',hp',G',rfl,h1,h2,h3,k,rfl,hk⟩
    simp only [AV.rel] at h3
    obtain ⟨x,hx1,hx2⟩:=h2.blk k y h3.1
    rw [q0p hk rfl] at hx1;cases hx1
    rw [hsz] at hx2
    have hold:∀ b,b<w.heap.size→q0h v≠some b→w'.heap[b]? = w.heap[b]?∧∃ o,G' b=some o:=fun b hb hne=>by
      have h4:q27 w (q0h v) b=some w.heap[b]:=by unfold q27;rw [if_neg hne];exact Array.getElem?_eq_getElem hb
      have h5:=h2.sub b _ h4
      exact ⟨by rw [h2.hold b _ h5,Array.getElem?_eq_getElem hb],_,h5⟩
    have hat:∀ b,q0h y=some b→w.heap.size≤b∨q0h v=some b:=fun b hb=>by
      by_cases h4:w.heap.size≤b
      · exact .inl h4
      · right
        apply Classical.byContradiction
        intro hne
        obtain ⟨_,o,h5⟩:=hold b (by omega) hne
        rw [hx2.2 b hb] at h5;cases h5
    refine ⟨y,rfl,hx2.1,⟨h2.below.os,h2.below.tape,h2.below.output,?_,fun b hb hne=>(hold b hb (fun e=>hne e.symm)).1⟩,hat⟩
    rcases Nat.eq_zero_or_pos w.heap.size with h0 |h0
    · omega
    · by_cases h4:q0h v=some (w.heap.size-1)
      · rcases hx2.1.2 with ⟨_,h5⟩ |⟨g,cap,cur,rfl,h5,h6,_⟩
        · omega
        · have h7:=(Array.getElem?_eq_some_iff.1 h6).1
          rcases hat g rfl with h8 |h8
          · omega
          · rw [h4] at h8;cases h8;omega
      · have h5:=(hold (w.heap.size-1) (by omega) h4).1
        rw [Array.getElem?_eq_getElem (show w.heap.size-1<w.heap.size by omega)] at h5
        have:=(Array.getElem?_eq_some_iff.1 h5).1
        omega
theorem q3t {P:Program} {f:FuncId} (hen:∀ vs w,(callFunc f vs).run P w=.ok (.enter f vs) w) {k:Nat} {post:List AV} {hp:List Blk} {G:Mem} {K:AV→List Blk→Mem→Prop} {E:TypeId} {sz n:Nat} {xs:List Value} {n':Nat} {xs':List Value}
    (hk:nthB hp k=.own E sz n xs) (hu:AV.unders 0 post=true) (hc:z3k P f post G E sz n xs n' xs') (h:setF hp k .gone fun hp1=>lenF hp1 fun q=>catF hp1 [.own E sz n' xs'] fun hp'=>K (.own q) hp' G):CallP P f (.own k::post) hp G K:=by
  rw [q09] at h
  have h0:=q1i h
  rw [q02] at h0
  refine ⟨hen,fun w0 G0 β w vs hr ha=>?_⟩
  simp only [AV.rels] at ha
  obtain ⟨v,ts,hvs,hv,hts⟩:=ha
  have e:vs=(v::ts).toArray:=by rw [← hvs]
  subst e
  simp only [AV.rel] at hv
  obtain ⟨x,hx1,hx2⟩:=hr.blk k v hv.1
  rw [q0p hk rfl] at hx1;cases hx1
  refine (hc w0.heap.size w v ts hr.hold hx2.1 hr.below.size hx2.2 (q2r hu hts)).mono ?_
  rintro e w' ⟨y,rfl,h1,h2,h3⟩
  have hlen:(hp.set k .gone).length=hp.length:=by simp
  rw [hlen] at h0
  refine ⟨y,_,_,_,G,rfl,Nm.le_put y (hr.fresh (Nat.le_refl _)),hr.moveName hv.1 (q0p hk rfl) rfl h2 h3 rfl (u:=.own E sz n' xs') ⟨h1,fun g hg=>?_⟩,by simp only [AV.rel];exact ⟨Nm.put_same _ _ _,q16 h1⟩,h0⟩
  rcases h3 g hg with h7 |h7
  · exact q2k hr.hold h7
  · exact hx2.2 g h7
theorem q6o {P:Program} {f:FuncId} {k:Nat} {post:List AV} {hp0:List Blk} {G:Mem} {K:Blk→Prop} {E:TypeId} {sz n:Nat} {xs:List Value} {n':Nat} {xs':List Value} (hk:nthB hp0 k=.own E sz n xs) (he:∀ vs w,(callFunc f vs).run P w=.ok (.enter f vs) w) (hu:AV.unders 0 post=true) (hc:z3k P f post G E sz n xs n' xs') (h:K (.own E sz n' xs')):TakeP P f k post hp0 G K :=
  .mk E sz n xs n' xs' hk he hu hc h
end Go.Proofs.YtkicdhaklnmonaaGreat
namespace Go.Proofs.YtkicdhaklnmonaaGreat
open Go.RowKit
set_option maxRecDepth 20000
def ints (l:List Int):List Value:=l.map (.int .i64)
theorem q51 {l:List Int} {i:Nat} {z:Int} (h:l[i]? = some z):(ints l)[i]? = some (.int .i64 z):=by simp [ints,h]
theorem x86 {l:List Int} {i:Nat} {z:Int} (h:l[i]? = some z):(ints l)[(i:Int).toNat * (⟨.int .i64,1,8,[.int .i64 0]⟩:TI).size]? = some (.int .i64 z):=by
  rw [Int.toNat_natCast,Nat.mul_one];exact q51 h
theorem x6s {l:List Int} {i:Nat} {z:Int} (h:l[i+1]? = some z):(ints l)[((i:Int)+1).toNat * (⟨.int .i64,1,8,[.int .i64 0]⟩:TI).size]? = some (.int .i64 z):=by
  rw [show ((i:Int)+1).toNat=i+1 by omega,Nat.mul_one];exact q51 h
theorem q4l (l:List Int):(ints l).length=l.length:=by simp [ints]
theorem v06 {l:List Int} {x:Int} {i:Nat} (hi:i≤l.length) (a:Value):((((ints l++[a]).take (i+1)++ints (l.drop i)++(ints l++[a]).drop (i+1+(ints (l.drop i)).length)).take i++[.int .i64 x]++((ints l++[a]).take (i+1)++ints (l.drop i)++(ints l++[a]).drop (i+1+(ints (l.drop i)).length)).drop (i+1)))=ints (l.take i++x::l.drop i):=by
  have e1:(ints l++[a]).drop (i+1+(ints (l.drop i)).length)=[]:=by
    apply List.drop_eq_nil_of_le;simp [ints];omega
  rw [e1,List.append_nil]
  have e2:((ints l++[a]).take (i+1)).length=i+1:=by simp [ints];omega
  rw [List.take_append_of_le_length (by omega),List.drop_append_of_le_length (by omega),List.drop_of_length_le (by omega)]
  rw [List.take_take,show min i (i+1)=i by omega,List.take_append_of_le_length (by simp [ints];omega)]
  simp [ints]
theorem z8n {l:List Int} {i j:Nat} {v:Value} {r:List Value} (h:(ints (l.drop i))[j]? = some v):(ints l++r)[(i:Int).toNat * 1+j]? = some v:=by
  have hj:=(List.getElem?_eq_some_iff.1 h).1
  simp only [q4l,List.length_drop] at hj
  rw [List.getElem?_append_left (by simp [q4l];omega)]
  simp only [ints,List.getElem?_map,List.getElem?_drop] at h ⊢
  rw [← h];congr 2;omega
theorem z8o {l:List Int}:∀ v∈ints l,v.oneCell'=true:=fun v hv=>by
  simp only [ints,List.mem_map] at hv
  obtain ⟨z,_,rfl⟩:=hv;rfl
theorem x01 {l:List Int} {i:Nat} {x:Int} (hi:i≤l.length):(i:Int).toNat * 1+[Value.int .i64 x].length≤((ints l++[Value.int .i64 0]).take (((i:Int)+1).toNat * 1)++ints (l.drop i)++(ints l++[Value.int .i64 0]).drop (((i:Int)+1).toNat * 1+(ints (l.drop i)).length)).length:=by
  simp only [List.length_append,List.length_take,List.length_drop,q4l,List.length_singleton];omega
theorem x3r {l:List Int} {i:Nat} {x:Int} (hi:i≤l.length) (hins:ins x l=l.take i++x::l.drop i) :
    Blk.own 3 1 (l.length+1) (((ints l++[Value.int .i64 0]).take (((i:Int)+1).toNat * 1)++ints (l.drop i)++(ints l++[Value.int .i64 0]).drop (((i:Int)+1).toNat * 1+(ints (l.drop i)).length)).take ((i:Int).toNat * 1)++[.int .i64 x]++((ints l++[Value.int .i64 0]).take (((i:Int)+1).toNat * 1)++ints (l.drop i)++(ints l++[Value.int .i64 0]).drop (((i:Int)+1).toNat * 1+(ints (l.drop i)).length)).drop ((i:Int).toNat * 1+[Value.int .i64 x].length)) =
      .own 3 1 (ins x l).length (ints (ins x l)):=by
  rw [show (((i:Int)+1).toNat * 1)=i+1 by omega,show ((i:Int).toNat * 1)=i by omega,List.length_singleton,v06 hi,hins]
  have e:l.length+1=(l.take i++x::l.drop i).length:=by simp;omega
  rw [e]
theorem v07 (x:Int) (l:List Int):0<(ins x l).length:=by
  cases l with
  | nil=>simp [ins]
  | cons a l=>unfold ins;split <;> (try split) <;> simp
set_option maxHeartbeats 1000000 in
theorem q2s (l:List Int) (x:Int) (G:Mem) (hl:l.length≤4000000000):z3k Tryz.prog 32 [.val (.int .i64 x)] G 3 1 l.length (ints l) (ins x l).length (ints (ins x l)):=by
  refine x00 tab_ok Tryz.func32 (v07 x l) fun G' _=>?_
  (repeat ((try (conv=>whnf));(refine stQ ?_)))
  conv=>whnf
  refine q0w tab_ok (fun i=>i≤l.length∧∀ (j:Nat) z,j<i→l[j]? = some z→z<x) (fun (i:Nat)=>[(5,.val (.int .i64 i))]) (fun i=>[.own 3 1 l.length (ints l)]) (fun i=>l.length-i) 0 ⟨Nat.zero_le _,fun j z hj=>by omega⟩ ?_ ?_
  · ((refine q0g ?_);(conv=>whnf);(refine q0k (by rfl) (by rfl) flQ ?_))
    exact q0c rfl rfl q0f
  · rintro i ⟨hi,hlt⟩
    rcases Nat.lt_or_ge i l.length with h1 |h1
    · obtain ⟨z,hz⟩:∃ z,l[i]? = some z:=⟨l[i],List.getElem?_eq_getElem h1⟩
      by_cases hzx:z<x
      · (repeat ((try (conv=>whnf));(refine stQ ?_)))
        conv=>whnf
        refine q0l (.int .i64 z) (by rw [Int.toNat_natCast,Nat.mul_one];exact q51 hz) ?_
        (repeat ((try (conv=>whnf));(refine stQ ?_)))
        refine ⟨i+1,⟨by omega,fun j q hj hq=>?_⟩,by omega,?_⟩
        · rcases Nat.lt_or_ge j i with h2 |h2
          · exact hlt j q h2 hq
          · have:j=i:=by omega
            subst this;rw [hz] at hq;cases hq;exact hzx
        · ((refine q0g ?_);(conv=>whnf);(refine q0k (by rfl) (by rfl) flQ ?_))
          exact q0c rfl rfl q0f
      · have hins:=x0r (x:=x) hi hlt (fun q hq=>by rw [hz] at hq;cases hq;exact hzx)
        rw [hz] at hins
        by_cases he:z=x
        · simp only [if_pos he] at hins
          (repeat ((try (conv=>whnf));(refine stQ ?_)))
          conv=>whnf
          refine q0l (.int .i64 z) (by rw [Int.toNat_natCast,Nat.mul_one];exact q51 hz) ?_
          (repeat ((try (conv=>whnf));(refine stQ ?_)))
          conv=>whnf
          refine q0l (.int .i64 z) (by rw [Int.toNat_natCast,Nat.mul_one];exact q51 hz) ?_
          (repeat ((try (conv=>whnf));(refine stQ ?_)))
          conv=>whnf
          exact ⟨0,rfl,by rw [hins];rfl⟩
        · simp only [if_neg he] at hins
          (repeat ((try (conv=>whnf));(refine stQ ?_)))
          conv=>whnf
          refine q0l (.int .i64 z) (by rw [Int.toNat_natCast,Nat.mul_one];exact q51 hz) ?_
          (repeat ((try (conv=>whnf));(refine stQ ?_)))
          conv=>whnf
          refine q0l (.int .i64 z) (by rw [Int.toNat_natCast,Nat.mul_one];exact q51 hz) ?_
          (repeat ((try (conv=>whnf));(refine stQ ?_)))
          conv=>whnf
          refine q08 (ints (l.drop i)) (by simp only [q4l,List.length_drop];omega) (fun j v hj=>z8n hj) ?_
          conv=>whnf
          refine mustP.mk ⟨by simp only [q4l,List.length_drop,List.length_append,List.length_singleton];omega,z8o⟩ ?_
          (repeat ((try (conv=>whnf));(refine stQ ?_)))
          conv=>whnf
          refine mustP.mk (x01 (by omega)) ?_
          (repeat ((try (conv=>whnf));(refine stQ ?_)))
          conv=>whnf
          exact ⟨2,rfl,x3r (by omega) hins⟩
    · have hins:=x0r (x:=x) hi hlt (fun q hq=>by rw [List.getElem?_eq_none (by omega)] at hq;cases hq)
      rw [List.getElem?_eq_none (by omega)] at hins
      simp only at hins
      (repeat ((try (conv=>whnf));(refine stQ ?_)))
      conv=>whnf
      refine q08 (ints (l.drop i)) (by simp only [q4l,List.length_drop];omega) (fun j v hj=>z8n hj) ?_
      conv=>whnf
      refine mustP.mk ⟨by simp only [q4l,List.length_drop,List.length_append,List.length_singleton];omega,z8o⟩ ?_
      (repeat ((try (conv=>whnf));(refine stQ ?_)))
      conv=>whnf
      refine mustP.mk (x01 (by omega)) ?_
      (repeat ((try (conv=>whnf));(refine stQ ?_)))
      conv=>whnf
      exact ⟨2,rfl,x3r (by omega) (by rw [hins,List.take_of_length_le (by omega),List.drop_of_length_le (by omega)])⟩
end Go.Proofs.YtkicdhaklnmonaaGreat
namespace Go.Proofs.YtkicdhaklnmonaaGreat
open Go.RowKit
set_option maxRecDepth 20000
def q0r (L:List Run):List Value:=L.flatMap fun r=>[.int .i64 r.y,.int .i64 r.x0,.int .i64 r.x1]
theorem q1m (K L:List Run):q0r (K++L)=q0r K++q0r L:=by simp [q0r]
theorem q4d (r:Run):q0r [r]=[.int .i64 r.y,.int .i64 r.x0,.int .i64 r.x1]:=by simp [q0r]
theorem q1h:∀ (L:List Run),(q0r L).length=L.length*3
  | []=>rfl
  | r::L=>by
    have:=q1h L
    show (q0r ([r]++L)).length=_
    rw [q1m,List.length_append,this,q4d];simp;omega
theorem q24 {L:List Run} {i:Nat} {r:Run} (h:L[i]? = some r):(q0r L)[i*3]? = some (.int .i64 r.y)∧(q0r L)[i*3+1]? = some (.int .i64 r.x0)∧(q0r L)[i*3+2]? = some (.int .i64 r.x1):=by
  obtain ⟨h1,rfl⟩:=List.getElem?_eq_some_iff.1 h
  have e:L=L.take i++([L[i]]++L.drop (i+1)):=by simp
  have hl:(q0r (L.take i)).length=i*3:=by rw [q1h,List.length_take];congr 1;omega
  have key:∀ j,j<3→(q0r L)[i*3+j]? = [Value.int .i64 L[i].y,.int .i64 L[i].x0,.int .i64 L[i].x1][j]?:=fun j hj=>by
    conv=>lhs;rw [e,q1m,q1m,q4d]
    rw [List.getElem?_append_right (by omega),hl,show i*3+j-i*3=j by omega,List.getElem?_append_left (by simp;omega)]
  exact ⟨key 0 (by omega),key 1 (by omega),key 2 (by omega)⟩
theorem z1s {L:List Run}:∀ v∈q0r L,v.oneCell'=true:=fun v hv=>by
  simp only [q0r,List.mem_flatMap,List.mem_cons,List.not_mem_nil,or_false] at hv
  obtain ⟨r,_,rfl |rfl |rfl⟩:=hv <;> rfl
def q5l (L:List Run) (y a b:Int):List Run :=
  match L.getLast? with
  | some r=>if r.y=y∧r.x1=a then L.dropLast++[⟨y,r.x0,b⟩] else L++[⟨y,a,b⟩]
  | none=>[⟨y,a,b⟩]
theorem z2u {y a b:Int}:q5l [] y a b=[⟨y,a,b⟩]:=by simp [q5l]
theorem z1t {L:List Run} {r:Run} {y a b:Int} (h1:r.y=y) (h2:r.x1=a):q5l (L++[r]) y a b=L++[⟨y,r.x0,b⟩]:=by simp [q5l,h1,h2]
theorem q99 {L:List Run} {r:Run} {y a b:Int} (h1:¬ (r.y=y∧r.x1=a)):q5l (L++[r]) y a b=L++[r]++[⟨y,a,b⟩]:=by
  unfold q5l
  have e:(L++[r]).getLast? = some r:=by simp
  rw [e]
  simp only [if_neg h1]
theorem x6t (L:List Run) (y a b:Int):0<(q5l L y a b).length:=by
  rcases q36 L with rfl |⟨K,r,rfl⟩
  · simp [z2u]
  · by_cases h:r.y=y∧r.x1=a
    · rw [z1t h.1 h.2];simp
    · rw [q99 h];simp
theorem x6u {L:List Run} {y a b:Int} (hu:upTo L y a) (h:a<b):q5l L y a b=addR L y a b:=by
  rcases q36 L with rfl |⟨K,r,rfl⟩
  · rw [z2u,q30 (by omega)]
  · have hr:=hu r (by simp)
    by_cases h1:r.y=y∧a≤r.x1
    · rw [q2g (by omega) h1.1 h1.2,z1t h1.1 (by omega)]
      have:max r.x1 b=b:=by omega
      rw [this]
    · rw [q3l (by omega) h1,q99 (by omega)]
theorem z8p (K:List Run) (r:Run):(q0r (K++[r]))[K.length*3]? = some (.int .i64 r.y)∧(q0r (K++[r]))[K.length*3+1]? = some (.int .i64 r.x0)∧(q0r (K++[r]))[K.length*3+2]? = some (.int .i64 r.x1) :=
  q24 (by simp)
theorem x02 (K:List Run) (r:Run) (b:Int):(q0r (K++[r])).take (K.length*3+2)++[.int .i64 b]++(q0r (K++[r])).drop (K.length*3+2+1)=q0r (K++[⟨r.y,r.x0,b⟩]):=by
  have hl:=q1h K
  rw [q1m,q1m,q4d,q4d,List.take_append,List.drop_append,hl]
  rw [List.take_of_length_le (by omega),List.drop_of_length_le (by omega)]
  simp [show K.length*3+2-K.length*3=2 by omega,show K.length*3+2+1-K.length*3=3 by omega]
theorem v08 (K:List Run) (r:Run):(((K++[r]).length:Nat):Int)-1=(K.length:Int):=by simp
theorem x87 {K:List Run} {r:Run} {y a b:Int} (h1:r.y=y) (h2:r.x1=a) :
    Blk.own 78 3 (K++[r]).length ((q0r (K++[r])).take (((((K++[r]).length:Nat):Int)-1).toNat * 3+2)++[.int .i64 b]++(q0r (K++[r])).drop (((((K++[r]).length:Nat):Int)-1).toNat * 3+2+[Value.int .i64 b].length)) =
      .own 78 3 (q5l (K++[r]) y a b).length (q0r (q5l (K++[r]) y a b)):=by
  rw [z1t h1 h2,← h1,v08,Int.toNat_natCast,List.length_singleton,x02 K r b]
  rw [show (K++[(⟨r.y,r.x0,b⟩:Run)]).length=(K++[r]).length by simp]
set_option maxHeartbeats 1000000 in
theorem z2v (L:List Run) (y a b:Int) (G:Mem) (hl:L.length≤1000000000000):z3k Tryz.prog 34 [.val (.int .i64 y),.val (.int .i64 a),.val (.int .i64 b)] G 78 3 L.length (q0r L) (q5l L y a b).length (q0r (q5l L y a b)):=by
  refine x00 tab_ok Tryz.func34 (x6t L y a b) fun G' _=>?_
  rcases q36 L with rfl |⟨K,r,rfl⟩
  · simp only [List.length_nil,show q0r []=[] from rfl]
    (repeat ((try (conv=>whnf));(refine stQ ?_)))
    conv=>whnf
    exact ⟨2,rfl,by rw [z2u];rfl⟩
  · obtain ⟨c0,c1,c2⟩:=z8p K r
    have hkl:((K++[r]).length:Int)=K.length+1:=by simp
    have ei:((((K++[r]).length:Nat):Int)-1).toNat=K.length:=by omega
    by_cases h1:r.y=y
    · by_cases h2:r.x1=a
      · (repeat ((try (conv=>whnf));(refine stQ ?_)))
        conv=>whnf
        refine q0l (.int .i64 r.y) (by rw [ei];exact c0) ?_
        (repeat ((try (conv=>whnf));(refine stQ ?_)))
        conv=>whnf
        refine q0l (.int .i64 r.x1) (by rw [ei];exact c2) ?_
        (repeat ((try (conv=>whnf));(refine stQ ?_)))
        conv=>whnf
        refine mustP.mk (by rw [ei,q1h];simp;omega) ?_
        (repeat ((try (conv=>whnf));(refine stQ ?_)))
        conv=>whnf
        exact ⟨0,rfl,x87 h1 h2⟩
      · (repeat ((try (conv=>whnf));(refine stQ ?_)))
        conv=>whnf
        refine q0l (.int .i64 r.y) (by rw [ei];exact c0) ?_
        (repeat ((try (conv=>whnf));(refine stQ ?_)))
        conv=>whnf
        refine q0l (.int .i64 r.x1) (by rw [ei];exact c2) ?_
        (repeat ((try (conv=>whnf));(refine stQ ?_)))
        conv=>whnf
        refine ⟨2,rfl,?_⟩
        rw [q99 (by omega),q1m _ [⟨y,a,b⟩],q4d]
        rw [show (K++[r]++[(⟨y,a,b⟩:Run)]).length=(K++[r]).length+1 by simp]
        rfl
    · (repeat ((try (conv=>whnf));(refine stQ ?_)))
      conv=>whnf
      refine q0l (.int .i64 r.y) (by rw [ei];exact c0) ?_
      (repeat ((try (conv=>whnf));(refine stQ ?_)))
      conv=>whnf
      refine ⟨2,rfl,?_⟩
      rw [q99 (by omega),q1m _ [⟨y,a,b⟩],q4d]
      rw [show (K++[r]++[(⟨y,a,b⟩:Run)]).length=(K++[r]).length+1 by simp]
      rfl
end Go.Proofs.YtkicdhaklnmonaaGreat
namespace Go.Proofs.YtkicdhaklnmonaaGreat
abbrev Pc:=List Int × List Run
def q8x:List Int:=[0,0,0,0,0,0,0,0]
def gput:List Pc→List Int→Int→Int→Int→List Pc
  | [],v,y,a,b=>[(v,[⟨y,a,b⟩])]
  | (u,L)::t,v,y,a,b=>if u=v then (u,addR L y a b)::t else (u,L)::gput t v y a b
def gadd (gs:List Pc) (v:List Int) (y a b:Int):List Pc:=if v=q8x then gs else gput gs v y a b
def gat (c:Nat→List Int) (W:Nat):Nat→List Pc
  | 0=>[]
  | i+1=>gadd (gat c W i) (c i) ((i/W:Nat):Int) ((i%W:Nat):Int) ((i%W:Nat)+1:Int)
def gidx (v:List Int):List Pc→Nat
  | []=>0
  | p::t=>if p.1=v then 0 else gidx v t+1
theorem z3w (v:List Int):∀ gs:List Pc,gidx v gs≤gs.length
  | []=>Nat.le_refl _
  | p::t=>by unfold gidx;have:=z3w v t;split <;> simp <;> omega
theorem x3s {v:List Int}:∀ {gs:List Pc} {j:Nat} {p:Pc},j<gidx v gs→gs[j]? = some p→p.1≠v
  | [],j,p,h,_=>by simp [gidx] at h
  | q::t,j,p,h,hp=>by
    unfold gidx at h
    split at h
    · omega
    · rename_i hne
      cases j with
      | zero=>simp at hp;subst hp;exact hne
      | succ j =>
        have h2:j<gidx v t:=Nat.lt_of_succ_lt_succ h
        exact x3s (v:=v) (gs:=t) h2 (by simpa using hp)
theorem z3x {v:List Int}:∀ {gs:List Pc},gidx v gs<gs.length→∃ L,gs[gidx v gs]? = some (v,L)
  | [],h=>by simp [gidx] at h
  | q::t,h=>by
    unfold gidx at h ⊢
    split at h
    · rename_i he
      rw [if_pos he]
      exact ⟨q.2,by rw [← he];rfl⟩
    · rename_i hne
      rw [if_neg hne]
      obtain ⟨L,hL⟩:=z3x (v:=v) (gs:=t) (by have h:gidx v t+1<t.length+1:=h;omega)
      exact ⟨L,by simpa using hL⟩
theorem z1u {v:List Int} {y a b:Int}:∀ {gs:List Pc} {L:List Run},gs[gidx v gs]? = some (v,L)→gput gs v y a b=gs.set (gidx v gs) (v,addR L y a b)
  | [],L,h=>by simp at h
  | (u,M)::t,L,h=>by
    unfold gidx at h ⊢
    unfold gput
    by_cases hu:u=v
    · simp only [hu,if_true] at h ⊢
      simp at h
      rw [h];rfl
    · simp only [hu,if_false] at h ⊢
      rw [z1u (gs:=t) (by simpa using h)];rfl
theorem z1v {v:List Int} {y a b:Int}:∀ {gs:List Pc},gidx v gs=gs.length→gput gs v y a b=gs++[(v,[⟨y,a,b⟩])]
  | [],_=>rfl
  | (u,M)::t,h=>by
    unfold gidx at h
    unfold gput
    by_cases hu:u=v
    · simp only [hu,if_true] at h
      simp at h
    · simp only [hu,if_false] at h ⊢
      rw [z1v (gs:=t) (by simpa using h)];rfl
theorem x88 (L:List Run) (y a b:Int):(addR L y a b).length≤L.length+1:=by
  rcases q36 L with rfl |⟨K,r,rfl⟩
  · by_cases hb:b≤a
    · rw [q6w hb];omega
    · rw [q30 hb];simp
  · by_cases hb:b≤a
    · rw [q6w hb];omega
    · by_cases h1:r.y=y∧a≤r.x1
      · rw [q2g hb h1.1 h1.2];simp
      · rw [q3l hb h1];simp
structure GOk (gs:List Pc) (n:Nat) (y x:Int):Prop where
  few:gs.length≤n
  runs:∀ p∈gs,p.2.length≤n∧upTo p.2 y x∧okR p.2
  apart:∀ (i j:Nat) (p q:Pc),i<j→gs[i]? = some p→gs[j]? = some q→p.1≠q.1
  keys:∀ p∈gs,p.1≠q8x∧p.2≠[]
theorem GOk.nil (n:Nat) (y x:Int):GOk [] n y x:=⟨Nat.zero_le _,fun p h=>(by cases h),fun i j p q _ h=>(by simp at h),fun p h=>(by cases h)⟩
theorem GOk.mono {gs:List Pc} {n n':Nat} {y x y' x':Int} (h:GOk gs n y x) (hn:n≤n') (k:y<y'∨(y=y'∧x≤x')):GOk gs n' y' x' :=
  ⟨Nat.le_trans h.few hn,fun p hp=>⟨Nat.le_trans (h.runs p hp).1 hn,q8d (h.runs p hp).2.1 k,(h.runs p hp).2.2⟩,h.apart,h.keys⟩
theorem v09 {L:List Run} {y a b:Int} (h:a<b):addR L y a b≠[]:=by
  unfold addR
  rw [if_neg (by omega)]
  split
  · split <;> simp
  · simp
theorem GOk.gput {gs:List Pc} {n:Nat} {y a b:Int} (h:GOk gs n y a) {v:List Int} (hv:v≠q8x) (hab:a<b):GOk (gput gs v y a b) (n+1) y b:=by
  have up:∀ p∈gs,p.2.length≤n+1∧upTo p.2 y b∧okR p.2:=fun p hp=>⟨by have:=(h.runs p hp).1;omega,q8d (h.runs p hp).2.1 (.inr ⟨rfl,by omega⟩),(h.runs p hp).2.2⟩
  rcases Nat.lt_or_ge (gidx v gs) gs.length with hi |hi
  · obtain ⟨L,hL⟩:=z3x hi
    have hm:=List.mem_of_getElem? hL
    obtain ⟨h1,h2,h3⟩:=h.runs _ hm
    obtain ⟨a1,a2,_⟩:=z68 (b:=b) h3 h2
    rw [z1u hL]
    refine ⟨by simp;have:=h.few;omega,fun p hp=>?_,fun i j p q hij hp hq=>?_,fun p hp=>?_⟩
    · rcases List.mem_or_eq_of_mem_set hp with h4 |rfl
      · exact up p h4
      · exact ⟨by have:=x88 L y a b;dsimp only at h1 ⊢;omega,a2 hab,a1⟩
    · have key:∀ (i:Nat) (p:Pc),(gs.set (gidx v gs) (v,addR L y a b))[i]? = some p→∃ q,gs[i]? = some q∧q.1=p.1:=fun i p hp=>by
        rw [List.getElem?_set] at hp
        by_cases e:gidx v gs=i
        · subst e
          rw [if_pos rfl,if_pos hi] at hp
          cases hp;exact ⟨_,hL,rfl⟩
        · rw [if_neg e] at hp;exact ⟨p,hp,rfl⟩
      obtain ⟨p',g1,g2⟩:=key i p hp
      obtain ⟨q',g3,g4⟩:=key j q hq
      rw [← g2,← g4];exact h.apart i j p' q' hij g1 g3
    · rcases List.mem_or_eq_of_mem_set hp with h4 |rfl
      · exact h.keys p h4
      · exact ⟨hv,v09 hab⟩
  · have hi:gidx v gs=gs.length:=by have:=z3w v gs;omega
    rw [z1v hi]
    refine ⟨by simp;exact h.few,fun p hp=>?_,fun i j p q hij hp hq=>?_,fun p hp=>?_⟩
    · rcases List.mem_append.1 hp with h4 |h4
      · exact up p h4
      · simp at h4;subst h4
        refine ⟨by simp,fun r hr=>?_,?_⟩
        · simp at hr;subst hr;exact .inr ⟨rfl,Int.le_refl _⟩
        · exact ⟨hab,by simp,trivial⟩
    · rw [List.getElem?_append] at hp hq
      split at hq
      · rename_i hjl
        rw [if_pos (by omega)] at hp
        exact h.apart i j p q hij hp hq
      · rename_i hjl
        have hj:j-gs.length=0:=by
          have:=(List.getElem?_eq_some_iff.1 hq).1;simp at this;omega
        rw [hj] at hq;simp at hq;subst hq
        rw [if_pos (by omega)] at hp
        exact x3s (v:=v) (gs:=gs) (by omega) hp
    · rcases List.mem_append.1 hp with h4 |h4
      · exact h.keys p h4
      · simp at h4;subst h4;exact ⟨hv,by simp⟩
theorem GOk.gadd {gs:List Pc} {n:Nat} {y a b:Int} (h:GOk gs n y a) {v:List Int} (hab:a<b):GOk (gadd gs v y a b) (n+1) y b:=by
  unfold Go.Proofs.YtkicdhaklnmonaaGreat.gadd
  split
  · exact h.mono (by omega) (.inr ⟨rfl,by omega⟩)
  · exact h.gput ‹_› hab
theorem x03 {L:List Run} {y a b:Int} (hu:upTo L y a) (hab:a<b):addR (addR L y a b) y b (b+1)=addR L y a (b+1):=by
  rcases q36 L with rfl |⟨K,r,rfl⟩
  · rw [q30 (by omega),q30 (by omega)]
    have:=q2g (L:=[]) (r:=⟨y,a,b⟩) (y:=y) (a:=b) (b:=b+1) (by omega) rfl (Int.le_refl _)
    rw [List.nil_append] at this
    rw [this]
    simp;omega
  · have hr:=hu r (by simp)
    by_cases h1:r.y=y∧a≤r.x1
    · rw [q2g (by omega) h1.1 h1.2,q2g (by omega) h1.1 h1.2]
      rw [q2g (L:=K) (r:=⟨y,r.x0,max r.x1 b⟩) (y:=y) (a:=b) (b:=b+1) (by omega) rfl (by show b≤max r.x1 b;omega)]
      congr 3
      show max (max r.x1 b) (b+1)=max r.x1 (b+1)
      omega
    · rw [q3l (by omega) h1,q3l (by omega) h1,q2g (L:=K++[r]) (r:=⟨y,a,b⟩) (y:=y) (a:=b) (b:=b+1) (by omega) rfl (Int.le_refl _)]
      congr 3
      show max b (b+1)=b+1
      omega
theorem x89 {gs:List Pc} {n:Nat} {y a b:Int} (h:GOk gs n y a) {v:List Int} (hab:a<b):gput (gput gs v y a b) v y b (b+1)=gput gs v y a (b+1):=by
  induction gs generalizing n with
  | nil =>
    show (if v=v then _ else _)=_
    rw [if_pos rfl]
    have:=x03 (L:=[]) (y:=y) (a:=a) (b:=b) (fun r hr=>by cases hr) hab
    rw [q30 (by omega),q30 (by omega)] at this
    rw [this];rfl
  | cons p t ih =>
    obtain ⟨u,L⟩:=p
    by_cases hu:u=v
    · have e:gput ((u,addR L y a b)::t) v y b (b+1)=(u,addR (addR L y a b) y b (b+1))::t:=by rw [gput,if_pos hu]
      have e2:gput ((u,L)::t) v y a b=(u,addR L y a b)::t:=by rw [gput,if_pos hu]
      have e3:gput ((u,L)::t) v y a (b+1)=(u,addR L y a (b+1))::t:=by rw [gput,if_pos hu]
      rw [e2,e,e3]
      rw [x03 (h.runs (u,L) (by simp)).2.1 hab]
    · skip
      have e:gput ((u,L)::gput t v y a b) v y b (b+1)=(u,L)::gput (gput t v y a b) v y b (b+1):=by rw [gput,if_neg hu]
      have e2:gput ((u,L)::t) v y a b=(u,L)::gput t v y a b:=by rw [gput,if_neg hu]
      have e3:gput ((u,L)::t) v y a (b+1)=(u,L)::gput t v y a (b+1):=by rw [gput,if_neg hu]
      rw [e2,e,e3]
      rw [ih (n:=n) ⟨by have:=h.few;simp at this;omega,fun p hp=>h.runs p (List.mem_cons_of_mem _ hp),fun i j p q hij hp hq=>h.apart (i+1) (j+1) p q (by omega) (by simpa using hp) (by simpa using hq),fun p hp=>h.keys p (List.mem_cons_of_mem _ hp)⟩]
theorem x9a {gs:List Pc} {n:Nat} {y a b:Int} (h:GOk gs n y a) {v:List Int} (hab:a<b):gadd (gadd gs v y a b) v y b (b+1)=gadd gs v y a (b+1):=by
  unfold gadd
  by_cases hv:v=q8x
  · simp [hv]
  · simp only [if_neg hv];exact x89 h hab
theorem z54 (c:Nat→List Int) {W:Nat} (hW:0<W):∀ i,GOk (gat c W i) i ((i/W:Nat):Int) ((i%W:Nat):Int)
  | 0=>GOk.nil _ _ _
  | i+1=>by
    have h:=(z54 c hW i).gadd (v:=c i) (b:=((i%W:Nat):Int)+1) (by omega)
    refine GOk.mono h (Nat.le_refl _) ?_
    have h1:i%W+1<W∨i%W+1=W:=by have:=Nat.mod_lt i hW;omega
    have e:=Nat.div_add_mod i W
    rcases h1 with h1 |h1
    · right
      have e1:(i+1)/W=i/W:=by
        rw [show i+1=(i%W+1)+W*(i/W) by omega,Nat.add_mul_div_left _ _ hW,Nat.div_eq_of_lt h1];omega
      have e2:(i+1)%W=i%W+1:=by
        rw [show i+1=(i%W+1)+W*(i/W) by omega,Nat.add_mul_mod_self_left,Nat.mod_eq_of_lt h1]
      rw [e1,e2];exact ⟨rfl,by omega⟩
    · left
      have e1:(i+1)/W=i/W+1:=by
        rw [show i+1=W+W*(i/W) by omega,Nat.add_mul_div_left _ _ hW,Nat.div_self hW];omega
      rw [e1];omega
theorem x3t {c:Nat→List Int} {W:Nat} (hW:0<W) {i:Nat}:∀ (n:Nat),(∀ j,j≤n→c (i+j)=c i)→i%W+n<W→gadd (gat c W i) (c i) ((i/W:Nat):Int) ((i%W:Nat):Int) ((i%W:Nat)+((n+1:Nat):Int))=gat c W (i+(n+1))
  | 0,_,_=>by rfl
  | n+1,hc,hn=>by
    have ih:=x3t (c:=c) hW (i:=i) n (fun j hj=>hc j (by omega)) (by omega)
    have hg:=x9a (z54 c hW i) (v:=c i) (b:=((i%W:Nat):Int)+((n+1:Nat):Int)) (by omega)
    rw [ih] at hg
    have e:=Nat.div_add_mod i W
    have e1:(i+(n+1))/W=i/W:=by
      rw [show i+(n+1)=(i%W+(n+1))+W*(i/W) by omega,Nat.add_mul_div_left _ _ hW,Nat.div_eq_of_lt hn];omega
    have e2:(i+(n+1))%W=i%W+(n+1):=by
      rw [show i+(n+1)=(i%W+(n+1))+W*(i/W) by omega,Nat.add_mul_mod_self_left,Nat.mod_eq_of_lt hn]
    show _=gadd (gat c W (i+(n+1))) (c (i+(n+1))) (((i+(n+1))/W:Nat):Int) (((i+(n+1))%W:Nat):Int) (((i+(n+1))%W:Nat)+1:Int)
    rw [e1,e2,hc (n+1) (Nat.le_refl _)]
    rw [show ((i%W:Nat):Int)+((n+1+1:Nat):Int)=((i%W:Nat):Int)+((n+1:Nat):Int)+1 by omega,← hg]
    rw [show ((i%W+(n+1):Nat):Int)=((i%W:Nat):Int)+((n+1:Nat):Int) by omega]
end Go.Proofs.YtkicdhaklnmonaaGreat
namespace Go.Proofs.YtkicdhaklnmonaaGreat
open Go.RowKit
theorem z7c {w w':World} (h:(q64 w).holds w'):Below w.heap.size {w' with heap:=w.heap} w':=by
  refine ⟨rfl,rfl,rfl,?_,fun k hk=>?_⟩
  · rcases Nat.eq_zero_or_pos w.heap.size with h0 |h0
    · show w.heap.size≤_;omega
    · have hk:w.heap.size-1<w.heap.size:=by omega
      have h1:=h (w.heap.size-1) _ (Array.getElem?_eq_getElem hk)
      have h2:=(Array.getElem?_eq_some_iff.1 h1).1
      show w.heap.size≤_
      omega
  · have h1:=h k _ (Array.getElem?_eq_getElem hk)
    show w'.heap[k]? = w.heap[k]?
    rw [h1,Array.getElem?_eq_getElem hk]
theorem Sees.heap {P:Program} {w w':World} (hh:w'.heap=w.heap):∀ (n:Nat) (t:TypeId) (cs:List Value),Sees P w n t cs→Sees P w' n t cs
  | 0,_,_,h=>h.elim
  | n+1,t,cs,h=>by
    unfold Sees at h ⊢
    split <;> first |(rename_i ht;rw [ht] at h;simp only at h) |skip
    · exact h
    · exact h
    · exact h
    · exact ⟨h.1,fun i f hi=>Sees.heap hh n _ _ (h.2 i f hi)⟩
    · exact ⟨h.1,fun i hi=>Sees.heap hh n _ _ (h.2 i hi)⟩
    · rcases h with h |⟨a,len,cap,h1,h2,h3,h4⟩
      · exact .inl h
      · refine .inr ⟨a,len,cap,h1,h2,h3,fun i hi=>?_⟩
        obtain ⟨cs',hl,hc,hs⟩:=h4 i hi
        refine ⟨cs',hl,fun j hj=>?_,Sees.heap hh n _ _ hs⟩
        rw [← hc j hj]
        simp only [World.cell?,hh]
    · trivial
theorem SliceG.holds {P:Program} {w w':World} {e:TypeId} {A:Option Addr} {n:Nat} {g:Nat→Nat→Value} (h:SliceG P w e A n g) (hb:(q64 w).holds w'):SliceG P w' e A n g:=by
  have h1:SliceG P {w' with heap:=w.heap} e A n g:=by
    intro hn
    obtain ⟨b,off,hA,hlt,hc⟩:=h hn
    refine ⟨b,off,hA,hlt,fun x hx=>⟨(hc x hx).1,?_⟩⟩
    obtain ⟨m,hm⟩:=(hc x hx).2
    exact ⟨m,Sees.heap (w:=w) (w':={w' with heap:=w.heap}) rfl _ _ _ hm⟩
  exact h1.below (z7c hb)
theorem Gives.of_callsA {P:Program} {f:FuncId} {args:List Value} {avs:List AV} {G:Mem} {y:Value} {v:AV} (ha:∀ vs,AV.rels noName avs vs→vs=args) (hv:v.rel noName y)
    (h:∀ w,G.holds w→Calls P f args.toArray w fun e w'=>e=.returned y∧Below w.heap.size w w'):Gives P f avs G v:=by
  intro w vs hG har
  have e:vs=args.toArray:=by rw [← ha _ har]
  subst e
  refine (h w hG).mono ?_
  rintro e w' ⟨rfl,h3⟩
  exact ⟨y,rfl,hv,h3⟩
theorem v1a {P:Program} {T:Tab} (hT:TOk P T) {f:FuncId} {fn:Func} (hfn:P.funcs[f]? = some fn) {avs:List AV} {args:Array Value} {w:World} (ha:AV.rels noName avs args.toList)
    (h:q32 P T 0 fn avs [] (q64 w) fun v _ _=>v=.val (.bool true)):Calls P f args w fun e w'=>e=.returned (.bool true)∧Below w.heap.size w w':=by
  refine (q8k hT hfn ha (x18 w) h (fun _ _ _ _ _ h=>h)).mono ?_
  rintro e w' ⟨y,β',v,hp',G',h1,h2,h3,rfl⟩
  simp only [AV.rel] at h3
  subst h3
  exact ⟨h1,h2.below⟩
theorem q7c {P:Program} {f:FuncId} (hen:∀ vs w,(callFunc f vs).run P w=.ok (.enter f vs) w) {args:List AV} {hp:List Blk} {G:Mem} {K:AV→List Blk→Mem→Prop} {wrap:AV→AV} (hwr:Wraps wrap) {E:TypeId} {sz n:Nat} {xs:List Value} (hu:AV.unders 0 args=true)
    (hc:q5k P f args G wrap E sz n xs) (h:∀ A cap G',G.le G'→n≤cap→cap≤maxLen→(xs=[]∨∃ b,A=some ⟨b,0,none⟩∧∀ (j:Nat) u,xs[j]? = some u→G'.cell? ⟨b,j,none⟩=some u)→K (wrap (.val (.slice A n cap))) hp G'):CallP P f args hp G K:=by
  refine ⟨hen,fun w0 G0 β w vs hr ha=>(hc w vs hr.hold (q2r hu ha)).mono ?_⟩
  rintro e w' ⟨y,s,rfl,h2,h3,h4⟩
  have hr':=hr.step h4
  have hv:∀ s':Value,(AV.val s').rel β s':=fun s'=>by simp only [AV.rel]
  rcases h3.2 with ⟨rfl,h5⟩ |⟨g,cap,cur,rfl,h5,h6,h7,h8,h9,h10⟩
  · have h0:=h none 0 G (Mem.le_refl _) (by omega) (Nat.zero_le _) (.inl (by have:=h3.1;rw [h5] at this;simpa using this))
    subst h5
    exact ⟨y,β,_,hp,G,rfl,Nm.le_refl _,hr',hwr.rel (hv _) h2,h0⟩
  · have hcell:∀ (j:Nat) u,xs[j]? = some u→(G.and w' g).cell? ⟨g,j,none⟩=some u:=fun j u hj=>by
      have h11:(G.and w' g) g=some (.cells cur E (0,0)):=by simp [Mem.and,h6]
      unfold Mem.cell?
      rw [h11]
      rw [← h10] at hj
      rw [List.getElem?_take] at hj
      split at hj
      · simpa using hj
      · cases hj
    have h0:=h (some ⟨g,0,none⟩) cap (G.and w' g) (Mem.le_and hr'.hold g) h7 h8 (.inr ⟨g,rfl,hcell⟩)
    refine ⟨y,β,_,hp,G.and w' g,rfl,Nm.le_refl _,⟨hr'.below,Mem.and_holds hr'.hold g,Mem.le_trans hr'.sub (Mem.le_and hr'.hold g),fun b o hb=>?_,fun k z hk=>?_,hr'.inj,hr'.wrt⟩,hwr.rel (hv _) h2,h0⟩
    · unfold Mem.and at hb
      split at hb
      · rename_i e1;subst e1
        right
        exact Nat.le_trans hr.below.size h5
      · exact hr'.grow b o hb
    · obtain ⟨x,hx1,hx2⟩:=hr.blk k z hk
      obtain ⟨x',hx1',hx2'⟩:=hr'.blk k z hk
      rw [hx1] at hx1';cases hx1'
      refine ⟨x,hx1,?_⟩
      have hne:∀ b,x.live=true→q0h z=some b→b≠g:=fun b hl hb=>by
        have:=(hr.lt hk hx1 hl hb).2.1
        omega
      cases x with
      | gone=>trivial
      | muts S=>exact hx2'.elim
      | cells t l =>
        obtain ⟨b,c,q1,q2,q3,q4,q5⟩:=hx2'
        refine ⟨b,c,q1,q2,?_,q4,q5⟩
        have:=hne b rfl (by rw [q1];rfl)
        simp [Mem.and,this,q3]
      | own e' sz' n' xs' =>
        refine ⟨hx2'.1,fun b hb=>?_⟩
        have:=hne b rfl hb
        simp [Mem.and,this,hx2'.2 b hb]
      | lp i fr st p =>
        obtain ⟨q1,q2,q3,q4⟩:=hx2'
        refine ⟨q1,q2,?_,q4⟩
        have:=hne i.l rfl (by rw [q1];rfl)
        simp [Mem.and,this,q3]
      | mp f ks vs =>
        obtain ⟨b,ys,q1,q2,q3,q4⟩:=hx2'
        refine ⟨b,ys,q1,q2,?_,q4⟩
        have:=hne b rfl (by rw [q1];rfl)
        simp [Mem.and,this,q3]
end Go.Proofs.YtkicdhaklnmonaaGreat
namespace Go.Proofs.YtkicdhaklnmonaaGreat
open Go.RowKit
set_option maxRecDepth 20000
def RunsM (G:Mem) (A:Option Addr) (L:List Run):Prop:=∀ (i:Nat) r,L[i]? = some r→∃ b off,A=some ⟨b,off,none⟩∧G.cell? ⟨b,off+i*3,none⟩=some (.int .i64 r.y)∧G.cell? ⟨b,off+i*3+1,none⟩=some (.int .i64 r.x0)∧G.cell? ⟨b,off+i*3+2,none⟩=some (.int .i64 r.x1)
theorem RunsM.mono {G G':Mem} {A:Option Addr} {L:List Run} (h:RunsM G A L) (hle:G.le G'):RunsM G' A L:=fun i r hr=>by
  obtain ⟨b,off,h1,h2,h3,h4⟩:=h i r hr
  exact ⟨b,off,h1,hle.cell h2,hle.cell h3,hle.cell h4⟩
theorem RunsM.nil (G:Mem) (A:Option Addr):RunsM G A []:=fun i r hr=>by simp at hr
theorem RunsM.at_ {G:Mem} {A:Option Addr} {L:List Run} (h:RunsM G A L) {i:Nat} {r:Run} (hi:L[i]? = some r):∃ p:Addr,A=some p∧G.cell? (Addr.add (p.add (i*3)) 0)=some (.int .i64 r.y)∧G.cell? (Addr.add (p.add (i*3)) 1)=some (.int .i64 r.x0)∧G.cell? (Addr.add (p.add (i*3)) 2)=some (.int .i64 r.x1):=by
  obtain ⟨b,off,rfl,h1,h2,h3⟩:=h i r hi
  exact ⟨_,rfl,by rw [q0m,q0m];exact h1,by rw [q0m,q0m];exact h2,by rw [q0m,q0m];exact h3⟩
theorem RunsM.cells {G:Mem} {A:Option Addr} {L:List Run} (h:RunsM G A L) {i:Nat} {r:Run} (hi:L[i]? = some r):∃ p:Addr,A=some p∧∀ K:List Value→Prop,K [.int .i64 r.y,.int .i64 r.x0,.int .i64 r.x1]→OldCells G (p.add (i*3)) 3 K:=by
  obtain ⟨p,rfl,c0,c1,c2⟩:=h.at_ hi
  refine ⟨p,rfl,fun K k=>q10 _ rfl (fun j u hj=>?_) k⟩
  match j,hj with
  | 0,hj=>simp at hj;subst hj;exact c0
  | 1,hj=>simp at hj;subst hj;exact c1
  | 2,hj=>simp at hj;subst hj;exact c2
def nthR (L:List Run) (i:Nat):Run:=(L[i]?).getD ⟨0,0,0⟩
theorem q4m {L:List Run} {i:Nat} {r:Run} (h:L[i]? = some r):nthR L i=r:=by simp [nthR,h]
theorem RunsAt.m {w:World} {A:Option Addr} {n:Nat} {rs:Nat→Run} (h:RunsAt w A n rs):RunsM (q64 w) A (q2h rs n):=by
  intro i r hr
  have hi:i<n:=by have:=(List.getElem?_eq_some_iff.1 hr).1;simpa [q2h] using this
  have e:rs i=r:=by simpa [q2h,List.getElem?_range hi] using hr
  subst e
  obtain ⟨b,off,hA,_,hc⟩:=h (by omega)
  obtain ⟨c0,c1,c2⟩:=hc i hi
  exact ⟨b,off,hA,c0,c1,c2⟩
theorem z2w (rs:Nat→Run) (n:Nat):(q2h rs n).length=n:=by simp [q2h]
def errL (L:List Run):Int:=regV (nthR L) L.length
theorem z55 {L:List Run} {i:Nat} (h0:regV (nthR L) i=0) (hi:i<L.length) (h:q4u (nthR L) i≠0):errL L=q4u (nthR L) i:=x4l h0 h hi
end Go.Proofs.YtkicdhaklnmonaaGreat
namespace Go.Proofs.YtkicdhaklnmonaaGreat
open Go.RowKit
set_option maxRecDepth 20000
set_option maxHeartbeats 2000000 in
theorem Check_gives {A:Option Addr} {L:List Run} {c:Nat} {G:Mem} (hR:RunsM G A L) (hc:L.length≤c) (hm:c≤maxLen):Gives Tryz.prog 48 [.val (.slice A L.length c)] G (.val (.int .i64 (errL L))):=by
  unfold maxLen at hm
  refine q01 tab_ok Tryz.func48 ?_
  (repeat ((try (conv=>whnf));(refine stQ ?_)))
  conv=>whnf
  refine q0w tab_ok (fun i=>i≤L.length∧regV (nthR L) i=0) (fun (i:Nat)=>[(7,.val (.int .i64 i))]) (fun i=>[]) (fun i=>L.length-i) 0 ⟨Nat.zero_le _,rfl⟩ ?_ ?_
  · ((refine q0g ?_);(conv=>whnf);(refine q0k (by rfl) (by rfl) flQ ?_))
    exact q0f
  · rintro i ⟨hi,h0⟩
    rcases Nat.lt_or_ge i L.length with h1 |h1
    · obtain ⟨r,hr⟩:∃ r,L[i]? = some r:=⟨L[i],List.getElem?_eq_getElem h1⟩
      obtain ⟨p,rfl,ca⟩:=hR.cells hr
      have hn:=q4m hr
      have first:=fun h=>z55 h0 h1 h
      have next:=fun h=>z8f (rs:=nthR L) (k:=i) h0 h
      have herr:q4u (nthR L) i=if r.y < -8192∨8191<r.y∨r.x0 < -8192∨8192<r.x0∨r.x1 < -8192∨8192<r.x1 then 3 else if r.x1≤r.x0 then 4 else if 0<i∧r.y≤(nthR L (i-1)).y∧(r.y<(nthR L (i-1)).y∨r.x0≤(nthR L (i-1)).x1) then 18 else 0:=by unfold q4u;rw [hn]
      rw [herr] at first next
      clear herr
      by_cases c0:r.y < -8192
      · rw [if_pos (by omega)] at first
        rw [first (by omega)]
        (repeat ((try (conv=>whnf));(first |(refine ca _ ?_) |(refine stQ ?_) |(with_reducible first |refine q0i tab_ok Tryz.func63 (fun vs w=>by kernel_rfl) (by rfl) ?_ |refine q0i tab_ok Tryz.func64 (fun vs w=>by kernel_rfl) (by rfl) ?_))))
        exact ⟨rfl,rfl⟩
      by_cases c1:8191<r.y
      · rw [if_pos (by omega)] at first
        rw [first (by omega)]
        (repeat ((try (conv=>whnf));(first |(refine ca _ ?_) |(refine stQ ?_) |(with_reducible first |refine q0i tab_ok Tryz.func63 (fun vs w=>by kernel_rfl) (by rfl) ?_ |refine q0i tab_ok Tryz.func64 (fun vs w=>by kernel_rfl) (by rfl) ?_))))
        exact ⟨rfl,rfl⟩
      by_cases c2:r.x0 < -8192
      · rw [if_pos (by omega)] at first
        rw [first (by omega)]
        (repeat ((try (conv=>whnf));(first |(refine ca _ ?_) |(refine stQ ?_) |(with_reducible first |refine q0i tab_ok Tryz.func63 (fun vs w=>by kernel_rfl) (by rfl) ?_ |refine q0i tab_ok Tryz.func64 (fun vs w=>by kernel_rfl) (by rfl) ?_))))
        exact ⟨rfl,rfl⟩
      by_cases c3:8192<r.x0
      · rw [if_pos (by omega)] at first
        rw [first (by omega)]
        (repeat ((try (conv=>whnf));(first |(refine ca _ ?_) |(refine stQ ?_) |(with_reducible first |refine q0i tab_ok Tryz.func63 (fun vs w=>by kernel_rfl) (by rfl) ?_ |refine q0i tab_ok Tryz.func64 (fun vs w=>by kernel_rfl) (by rfl) ?_))))
        exact ⟨rfl,rfl⟩
      by_cases c4:r.x1 < -8192
      · rw [if_pos (by omega)] at first
        rw [first (by omega)]
        (repeat ((try (conv=>whnf));(first |(refine ca _ ?_) |(refine stQ ?_) |(with_reducible first |refine q0i tab_ok Tryz.func63 (fun vs w=>by kernel_rfl) (by rfl) ?_ |refine q0i tab_ok Tryz.func64 (fun vs w=>by kernel_rfl) (by rfl) ?_))))
        exact ⟨rfl,rfl⟩
      by_cases c5:8192<r.x1
      · rw [if_pos (by omega)] at first
        rw [first (by omega)]
        (repeat ((try (conv=>whnf));(first |(refine ca _ ?_) |(refine stQ ?_) |(with_reducible first |refine q0i tab_ok Tryz.func63 (fun vs w=>by kernel_rfl) (by rfl) ?_ |refine q0i tab_ok Tryz.func64 (fun vs w=>by kernel_rfl) (by rfl) ?_))))
        exact ⟨rfl,rfl⟩
      rw [if_neg (by omega)] at first next
      by_cases c6:r.x1≤r.x0
      · rw [if_pos c6] at first
        rw [first (by omega)]
        (repeat ((try (conv=>whnf));(first |(refine ca _ ?_) |(refine stQ ?_) |(with_reducible first |refine q0i tab_ok Tryz.func63 (fun vs w=>by kernel_rfl) (by rfl) ?_ |refine q0i tab_ok Tryz.func64 (fun vs w=>by kernel_rfl) (by rfl) ?_))))
        exact ⟨rfl,rfl⟩
      rw [if_neg c6] at first next
      rcases i with _ |m
      · rw [if_neg (by omega)] at next
        (repeat ((try (conv=>whnf));(first |(refine ca _ ?_) |(refine stQ ?_) |(with_reducible first |refine q0i tab_ok Tryz.func63 (fun vs w=>by kernel_rfl) (by rfl) ?_ |refine q0i tab_ok Tryz.func64 (fun vs w=>by kernel_rfl) (by rfl) ?_))))
        refine ⟨1,⟨by omega,next rfl⟩,by omega,?_⟩
        ((refine q0g ?_);(conv=>whnf);(refine q0k (by rfl) (by rfl) flQ ?_))
        exact q0f
      · obtain ⟨q,hq⟩:∃ q,L[m]? = some q:=⟨L[m],List.getElem?_eq_getElem (by omega)⟩
        obtain ⟨p',he,q0,q1,q2⟩:=hR.at_ hq
        cases he
        have hix:(((m+1:Nat):Int)-1).toNat=m:=by omega
        rw [← hix] at q0 q1 q2
        rw [Nat.add_sub_cancel,q4m hq] at first next
        by_cases d0:r.y<q.y
        · rw [if_pos (by omega)] at first
          rw [first (by omega)]
          (repeat ((try (conv=>whnf));(first |(refine ca _ ?_) |(refine q0b _ q0 ?_) |(refine q0b _ q2 ?_) |(refine stQ ?_) |(with_reducible first |refine q0i tab_ok Tryz.func63 (fun vs w=>by kernel_rfl) (by rfl) ?_ |refine q0i tab_ok Tryz.func64 (fun vs w=>by kernel_rfl) (by rfl) ?_))))
          exact ⟨rfl,rfl⟩
        by_cases d1:r.y=q.y∧r.x0≤q.x1
        · obtain ⟨d1,d2⟩:=d1
          rw [if_pos (by omega)] at first
          rw [first (by omega)]
          (repeat ((try (conv=>whnf));(first |(refine ca _ ?_) |(refine q0b _ q0 ?_) |(refine q0b _ q2 ?_) |(refine stQ ?_) |(with_reducible first |refine q0i tab_ok Tryz.func63 (fun vs w=>by kernel_rfl) (by rfl) ?_ |refine q0i tab_ok Tryz.func64 (fun vs w=>by kernel_rfl) (by rfl) ?_))))
          exact ⟨rfl,rfl⟩
        rw [if_neg (by omega)] at next
        by_cases d2:r.y=q.y
        · (repeat ((try (conv=>whnf));(first |(refine ca _ ?_) |(refine q0b _ q0 ?_) |(refine q0b _ q2 ?_) |(refine stQ ?_) |(with_reducible first |refine q0i tab_ok Tryz.func63 (fun vs w=>by kernel_rfl) (by rfl) ?_ |refine q0i tab_ok Tryz.func64 (fun vs w=>by kernel_rfl) (by rfl) ?_))))
          refine ⟨m+1+1,⟨by omega,next rfl⟩,by omega,?_⟩
          ((refine q0g ?_);(conv=>whnf);(refine q0k (by rfl) (by rfl) flQ ?_))
          exact q0f
        · (repeat ((try (conv=>whnf));(first |(refine ca _ ?_) |(refine q0b _ q0 ?_) |(refine q0b _ q2 ?_) |(refine stQ ?_) |(with_reducible first |refine q0i tab_ok Tryz.func63 (fun vs w=>by kernel_rfl) (by rfl) ?_ |refine q0i tab_ok Tryz.func64 (fun vs w=>by kernel_rfl) (by rfl) ?_))))
          refine ⟨m+1+1,⟨by omega,next rfl⟩,by omega,?_⟩
          ((refine q0g ?_);(conv=>whnf);(refine q0k (by rfl) (by rfl) flQ ?_))
          exact q0f
    · obtain rfl:i=L.length:=by omega
      (repeat ((try (conv=>whnf));(refine stQ ?_)))
      exact ⟨by rw [show errL L=0 from h0],rfl⟩
set_option maxHeartbeats 2000000 in
theorem RCheck_gives {A:Option Addr} {L:List Run} {c:Nat} {G:Mem} (hR:RunsM G A L) (hc:L.length≤c) (hm:c≤maxLen):Gives Tryz.prog 31 [.val (.slice A L.length c)] G (.val (.int .i64 (errL L))):=by
  unfold maxLen at hm
  refine q01 tab_ok Tryz.func31 ?_
  (repeat ((try (conv=>whnf));(refine stQ ?_)))
  conv=>whnf
  refine q0w tab_ok (fun i=>i≤L.length∧regV (nthR L) i=0) (fun (i:Nat)=>[(7,.val (.int .i64 i))]) (fun i=>[]) (fun i=>L.length-i) 0 ⟨Nat.zero_le _,rfl⟩ ?_ ?_
  · ((refine q0g ?_);(conv=>whnf);(refine q0k (by rfl) (by rfl) flQ ?_))
    exact q0f
  · rintro i ⟨hi,h0⟩
    rcases Nat.lt_or_ge i L.length with h1 |h1
    · obtain ⟨r,hr⟩:∃ r,L[i]? = some r:=⟨L[i],List.getElem?_eq_getElem h1⟩
      obtain ⟨p,rfl,ca⟩:=hR.cells hr
      have hn:=q4m hr
      have first:=fun h=>z55 h0 h1 h
      have next:=fun h=>z8f (rs:=nthR L) (k:=i) h0 h
      have herr:q4u (nthR L) i=if r.y < -8192∨8191<r.y∨r.x0 < -8192∨8192<r.x0∨r.x1 < -8192∨8192<r.x1 then 3 else if r.x1≤r.x0 then 4 else if 0<i∧r.y≤(nthR L (i-1)).y∧(r.y<(nthR L (i-1)).y∨r.x0≤(nthR L (i-1)).x1) then 18 else 0:=by unfold q4u;rw [hn]
      rw [herr] at first next
      clear herr
      by_cases c0:r.y < -8192
      · rw [if_pos (by omega)] at first
        rw [first (by omega)]
        (repeat ((try (conv=>whnf));(first |(refine ca _ ?_) |(refine stQ ?_) |(with_reducible refine q0i tab_ok Tryz.func11 (fun vs w=>by kernel_rfl) (by rfl) ?_))))
        exact ⟨rfl,rfl⟩
      by_cases c1:8191<r.y
      · rw [if_pos (by omega)] at first
        rw [first (by omega)]
        (repeat ((try (conv=>whnf));(first |(refine ca _ ?_) |(refine stQ ?_) |(with_reducible refine q0i tab_ok Tryz.func11 (fun vs w=>by kernel_rfl) (by rfl) ?_))))
        exact ⟨rfl,rfl⟩
      by_cases c2:r.x0 < -8192
      · rw [if_pos (by omega)] at first
        rw [first (by omega)]
        (repeat ((try (conv=>whnf));(first |(refine ca _ ?_) |(refine stQ ?_) |(with_reducible refine q0i tab_ok Tryz.func11 (fun vs w=>by kernel_rfl) (by rfl) ?_))))
        exact ⟨rfl,rfl⟩
      by_cases c3:8192<r.x0
      · rw [if_pos (by omega)] at first
        rw [first (by omega)]
        (repeat ((try (conv=>whnf));(first |(refine ca _ ?_) |(refine stQ ?_) |(with_reducible refine q0i tab_ok Tryz.func11 (fun vs w=>by kernel_rfl) (by rfl) ?_))))
        exact ⟨rfl,rfl⟩
      by_cases c4:r.x1 < -8192
      · rw [if_pos (by omega)] at first
        rw [first (by omega)]
        (repeat ((try (conv=>whnf));(first |(refine ca _ ?_) |(refine stQ ?_) |(with_reducible refine q0i tab_ok Tryz.func11 (fun vs w=>by kernel_rfl) (by rfl) ?_))))
        exact ⟨rfl,rfl⟩
      by_cases c5:8192<r.x1
      · rw [if_pos (by omega)] at first
        rw [first (by omega)]
        (repeat ((try (conv=>whnf));(first |(refine ca _ ?_) |(refine stQ ?_) |(with_reducible refine q0i tab_ok Tryz.func11 (fun vs w=>by kernel_rfl) (by rfl) ?_))))
        exact ⟨rfl,rfl⟩
      rw [if_neg (by omega)] at first next
      by_cases c6:r.x1≤r.x0
      · rw [if_pos c6] at first
        rw [first (by omega)]
        (repeat ((try (conv=>whnf));(first |(refine ca _ ?_) |(refine stQ ?_) |(with_reducible refine q0i tab_ok Tryz.func11 (fun vs w=>by kernel_rfl) (by rfl) ?_))))
        exact ⟨rfl,rfl⟩
      rw [if_neg c6] at first next
      rcases i with _ |m
      · rw [if_neg (by omega)] at next
        (repeat ((try (conv=>whnf));(first |(refine ca _ ?_) |(refine stQ ?_) |(with_reducible refine q0i tab_ok Tryz.func11 (fun vs w=>by kernel_rfl) (by rfl) ?_))))
        refine ⟨1,⟨by omega,next rfl⟩,by omega,?_⟩
        ((refine q0g ?_);(conv=>whnf);(refine q0k (by rfl) (by rfl) flQ ?_))
        exact q0f
      · obtain ⟨q,hq⟩:∃ q,L[m]? = some q:=⟨L[m],List.getElem?_eq_getElem (by omega)⟩
        obtain ⟨p',he,q0,q1,q2⟩:=hR.at_ hq
        cases he
        have hix:(((m+1:Nat):Int)-1).toNat=m:=by omega
        rw [← hix] at q0 q1 q2
        rw [Nat.add_sub_cancel,q4m hq] at first next
        by_cases d0:r.y<q.y
        · rw [if_pos (by omega)] at first
          rw [first (by omega)]
          (repeat ((try (conv=>whnf));(first |(refine ca _ ?_) |(refine q0b _ q0 ?_) |(refine q0b _ q2 ?_) |(refine stQ ?_) |(with_reducible refine q0i tab_ok Tryz.func11 (fun vs w=>by kernel_rfl) (by rfl) ?_))))
          exact ⟨rfl,rfl⟩
        by_cases d1:r.y=q.y∧r.x0≤q.x1
        · obtain ⟨d1,d2⟩:=d1
          rw [if_pos (by omega)] at first
          rw [first (by omega)]
          (repeat ((try (conv=>whnf));(first |(refine ca _ ?_) |(refine q0b _ q0 ?_) |(refine q0b _ q2 ?_) |(refine stQ ?_) |(with_reducible refine q0i tab_ok Tryz.func11 (fun vs w=>by kernel_rfl) (by rfl) ?_))))
          exact ⟨rfl,rfl⟩
        rw [if_neg (by omega)] at next
        by_cases d2:r.y=q.y
        · (repeat ((try (conv=>whnf));(first |(refine ca _ ?_) |(refine q0b _ q0 ?_) |(refine q0b _ q2 ?_) |(refine stQ ?_) |(with_reducible refine q0i tab_ok Tryz.func11 (fun vs w=>by kernel_rfl) (by rfl) ?_))))
          refine ⟨m+1+1,⟨by omega,next rfl⟩,by omega,?_⟩
          ((refine q0g ?_);(conv=>whnf);(refine q0k (by rfl) (by rfl) flQ ?_))
          exact q0f
        · (repeat ((try (conv=>whnf));(first |(refine ca _ ?_) |(refine q0b _ q0 ?_) |(refine q0b _ q2 ?_) |(refine stQ ?_) |(with_reducible refine q0i tab_ok Tryz.func11 (fun vs w=>by kernel_rfl) (by rfl) ?_))))
          refine ⟨m+1+1,⟨by omega,next rfl⟩,by omega,?_⟩
          ((refine q0g ?_);(conv=>whnf);(refine q0k (by rfl) (by rfl) flQ ?_))
          exact q0f
    · obtain rfl:i=L.length:=by omega
      (repeat ((try (conv=>whnf));(refine stQ ?_)))
      exact ⟨by rw [show errL L=0 from h0],rfl⟩
end Go.Proofs.YtkicdhaklnmonaaGreat
namespace Go.Proofs.YtkicdhaklnmonaaGreat
open Go.RowKit
set_option maxRecDepth 20000
theorem RunsM.frozen {G:Mem} {A:Option Addr} {L:List Run} (h:q0r L=[]∨∃ b,A=some ⟨b,0,none⟩∧∀ (j:Nat) u,(q0r L)[j]? = some u→G.cell? ⟨b,j,none⟩=some u):RunsM G A L:=fun i r hr=>by
  obtain ⟨h1,h2,h3⟩:=q24 hr
  rcases h with h |⟨b,rfl,h⟩
  · rw [h] at h1;simp at h1
  · exact ⟨b,0,rfl,by rw [Nat.zero_add];exact h _ _ h1,by rw [Nat.zero_add];exact h _ _ h2,by rw [Nat.zero_add];exact h _ _ h3⟩
def inR (r:Run) (x y:Int):Bool:=decide (r.y=y∧r.x0≤x∧x<r.x1)
def hasL (L:List Run) (x y:Int):Bool:=L.any fun r=>inR r x y
theorem hasL_iff {L:List Run} {x y:Int}:hasL L x y=true↔hasR L x y:=by simp [hasL,hasR,inR]
theorem x6v {rs:Nat→Run} {n:Nat} {x y:Int}:hasL (q2h rs n) x y=hasB rs n x y:=by
  cases h:hasB rs n x y with
  | true=>exact hasL_iff.2 (hasB_iff.1 h)
  | false =>
    cases h2:hasL (q2h rs n) x y with
    | false=>rfl
    | true=>rw [hasB_iff.2 (hasL_iff.1 h2)] at h;cases h
theorem x6w {L:List Run} {x y:Int} (h:∀ (i:Nat) r,L[i]? = some r→inR r x y=false):hasL L x y=false:=by
  cases h2:hasL L x y with
  | false=>rfl
  | true =>
    obtain ⟨r,h3,h4⟩:=List.any_eq_true.1 h2
    obtain ⟨i,hi⟩:=List.mem_iff_getElem?.1 h3
    rw [h i r hi] at h4;cases h4
theorem x6x {L:List Run} {x y:Int} {i:Nat} {r:Run} (h:L[i]? = some r) (h2:inR r x y=true):hasL L x y=true:=List.any_eq_true.2 ⟨r,List.mem_of_getElem? h,h2⟩
set_option maxHeartbeats 1000000 in
theorem z8q (A:Option Addr) (L:List Run) (cap:Nat) (x y:Int) (G:Mem) (hR:RunsM G A L) (hl:L.length≤1000000000000):Gives Tryz.prog 33 [.val (.slice A L.length cap),.val (.int .i64 x),.val (.int .i64 y)] G (.val (.bool (hasL L x y))):=by
  refine q01 tab_ok Tryz.func33 ?_
  (repeat ((try (conv=>whnf));(refine stQ ?_)))
  conv=>whnf
  refine q0w tab_ok (fun i=>i≤L.length∧∀ (j:Nat) r,j<i→L[j]? = some r→inR r x y=false) (fun (i:Nat)=>[(10,.val (.int .i64 i))]) (fun i=>[]) (fun i=>L.length-i) 0 ⟨Nat.zero_le _,fun j z hj=>by omega⟩ ?_ ?_
  · ((refine q0g ?_);(conv=>whnf);(refine q0k (by rfl) (by rfl) flQ ?_))
    exact q0f
  · rintro i ⟨hi,hno⟩
    rcases Nat.lt_or_ge i L.length with h1 |h1
    · obtain ⟨r,hr⟩:∃ r,L[i]? = some r:=⟨L[i],List.getElem?_eq_getElem h1⟩
      obtain ⟨p,rfl,c0,c1,c2⟩:=hR.at_ hr
      have next:inR r x y=false→∀ (j:Nat) q,j<i+1→L[j]? = some q→inR q x y=false:=fun h j q hj hq=>by
        rcases Nat.lt_or_ge j i with h2 |h2
        · exact hno j q h2 hq
        · have:j=i:=by omega
          subst this;rw [hr] at hq;cases hq;exact h
      by_cases e1:r.y=y
      · by_cases e2:r.x0≤x
        · by_cases e3:x<r.x1
          · (repeat ((try (conv=>whnf));(refine stQ ?_)))
            conv=>whnf
            refine q0b _ c0 ?_
            (repeat ((try (conv=>whnf));(refine stQ ?_)))
            conv=>whnf
            refine q0b _ c1 ?_
            (repeat ((try (conv=>whnf));(refine stQ ?_)))
            conv=>whnf
            refine q0b _ c2 ?_
            (repeat ((try (conv=>whnf));(refine stQ ?_)))
            exact ⟨by rw [x6x hr (by simp [inR];omega)],rfl⟩
          · (repeat ((try (conv=>whnf));(refine stQ ?_)))
            conv=>whnf
            refine q0b _ c0 ?_
            (repeat ((try (conv=>whnf));(refine stQ ?_)))
            conv=>whnf
            refine q0b _ c1 ?_
            (repeat ((try (conv=>whnf));(refine stQ ?_)))
            conv=>whnf
            refine q0b _ c2 ?_
            (repeat ((try (conv=>whnf));(refine stQ ?_)))
            refine ⟨i+1,⟨by omega,next (by simp [inR];omega)⟩,by omega,?_⟩
            ((refine q0g ?_);(conv=>whnf);(refine q0k (by rfl) (by rfl) flQ ?_))
            exact q0f
        · (repeat ((try (conv=>whnf));(refine stQ ?_)))
          conv=>whnf
          refine q0b _ c0 ?_
          (repeat ((try (conv=>whnf));(refine stQ ?_)))
          conv=>whnf
          refine q0b _ c1 ?_
          (repeat ((try (conv=>whnf));(refine stQ ?_)))
          refine ⟨i+1,⟨by omega,next (by simp [inR];omega)⟩,by omega,?_⟩
          ((refine q0g ?_);(conv=>whnf);(refine q0k (by rfl) (by rfl) flQ ?_))
          exact q0f
      · (repeat ((try (conv=>whnf));(refine stQ ?_)))
        conv=>whnf
        refine q0b _ c0 ?_
        (repeat ((try (conv=>whnf));(refine stQ ?_)))
        refine ⟨i+1,⟨by omega,next (by simp [inR,e1])⟩,by omega,?_⟩
        ((refine q0g ?_);(conv=>whnf);(refine q0k (by rfl) (by rfl) flQ ?_))
        exact q0f
    · (repeat ((try (conv=>whnf));(refine stQ ?_)))
      exact ⟨by rw [x6w fun j r hr=>hno j r (by have:=(List.getElem?_eq_some_iff.1 hr).1;omega) hr],rfl⟩
set_option maxHeartbeats 1000000 in
theorem z7d (A B:Option Addr) (L:List Run) (c d:Nat) (G:Mem) (hA:RunsM G A L) (hB:RunsM G B L) (hl:L.length≤1000000000000):Gives Tryz.prog 13 [.val (.slice A L.length c),.val (.slice B L.length d)] G (.val (.bool true)):=by
  refine q01 tab_ok Tryz.func13 ?_
  (repeat ((try (conv=>whnf));(refine stQ ?_)))
  conv=>whnf
  refine q0w tab_ok (fun i=>i≤L.length) (fun (i:Nat)=>[(13,.val (.int .i64 i))]) (fun i=>[]) (fun i=>L.length-i) 0 (Nat.zero_le _) ?_ ?_
  · ((refine q0g ?_);(conv=>whnf);(refine q0k (by rfl) (by rfl) flQ ?_))
    exact q0f
  · rintro i hi
    rcases Nat.lt_or_ge i L.length with h1 |h1
    · obtain ⟨r,hr⟩:∃ r,L[i]? = some r:=⟨L[i],List.getElem?_eq_getElem h1⟩
      obtain ⟨p,rfl,ca⟩:=hA.cells hr
      obtain ⟨q,rfl,cb⟩:=hB.cells hr
      (repeat ((try (conv=>whnf));(refine stQ ?_)))
      conv=>whnf
      refine ca _ ?_
      (repeat ((try (conv=>whnf));(refine stQ ?_)))
      conv=>whnf
      refine cb _ ?_
      (repeat ((try (conv=>whnf));(refine stQ ?_)))
      refine ⟨i+1,by omega,by omega,?_⟩
      ((refine q0g ?_);(conv=>whnf);(refine q0k (by rfl) (by rfl) flQ ?_))
      exact q0f
    · (repeat ((try (conv=>whnf));(refine stQ ?_)))
      exact ⟨rfl,rfl⟩
end Go.Proofs.YtkicdhaklnmonaaGreat
