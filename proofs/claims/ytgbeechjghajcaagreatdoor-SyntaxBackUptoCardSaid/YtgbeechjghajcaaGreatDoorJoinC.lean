/- Texts of this seat, joined: The table of types that the walk asks. Written by a program off the translation. Package lex: the scanner's own walks. Pac -/
import Derived.Test.YtgbeechjghajcaaGreatDoorJoinB
import Derived.Test.YtgbeechjghajcaaGreatDoorChecked
import Derived.Shelf.Lays
import Derived.Shelf.LaysM
import Derived.Shelf.Strings.BuilderX
import Derived.Shelf.Strings.OnBuilder
import Derived.Shelf.Strings.Search3
import Derived.Shelf.Strconv.Itoa3
import Derived.Below
set_option linter.unusedVariables false
set_option linter.unusedSimpArgs false
namespace Go.Proofs.YtgbeechjghajcaaGreatDoor
open Go Go.Fw
set_option maxRecDepth 100000
def tabU:List (Nat×UD):=[(1,.func),
(2,.int .i64),
(3,.int .i64),
(4,.bool),
(5,.int .u8),
(6,.int .u8),
(7,.struct [(0,1,false),(1,1,false),(2,1,false),(3,1,false)]),
(8,.struct [(0,1,false),(1,1,false),(2,1,false),(3,1,false)]),
(9,.str),
(10,.str),
(11,.str),
(12,.int .u64),
(13,.struct [(0,1,false),(1,1,false)]),
(14,.struct [(0,1,false),(1,1,false)]),
(15,.ptr),
(16,.ptr),
(17,.ptr),
(18,.struct [(0,1,false)]),
(19,.struct [(0,1,false)]),
(20,.iface),
(21,.int .i32),
(22,.func),
(23,.slice 81 8),
(24,.slice 83 6),
(25,.slice 9 1),
(26,.slice 85 4),
(27,.slice 50 2),
(28,.slice 53 1),
(29,.slice 61 17),
(30,.slice 89 4),
(31,.struct [(0,1,false),(1,1,false),(2,1,false),(3,1,false),(4,1,false),(5,1,false),(6,1,false),(7,1,false)]),
(32,.struct [(0,1,false),(1,1,false),(2,1,false),(3,1,false),(4,1,false),(5,1,false),(6,1,false),(7,1,false)]),
(33,.int .i64),
(35,.func),
(37,.func),
(38,.func),
(41,.func),
(42,.slice 47 4),
(45,.func),
(47,.struct [(0,1,false),(1,1,false),(2,1,false),(3,1,false)]),
(48,.func),
(49,.struct [(0,1,false),(1,1,false)]),
(50,.struct [(0,1,false),(1,1,false)]),
(51,.struct [(0,1,false),(1,1,false),(2,1,false),(3,1,false)]),
(52,.struct [(0,1,false),(1,1,false),(2,1,false),(3,1,false)]),
(53,.slice 52 4),
(55,.struct [(0,1,false),(1,1,false),(2,1,false),(3,1,false),(4,1,false),(5,1,false),(6,1,false)]),
(56,.slice 55 7),
(58,.struct [(0,1,false),(1,1,false),(2,1,false)]),
(59,.slice 58 3),
(61,.struct [(0,1,false),(1,1,false),(2,1,false),(3,1,false),(4,1,false),(5,1,false),(6,1,false),(7,1,false),(8,1,false),(9,1,false),(10,1,false),(11,1,false),(12,1,false),(13,1,false),(14,1,false),(15,1,false),(16,1,false)]),
(62,.struct [(0,1,false),(1,1,false)]),
(63,.struct [(0,1,false),(1,1,false)]),
(65,.ptr),
(67,.struct [(0,1,false),(1,1,false),(2,1,false),(3,8,true)]),
(68,.map),
(70,.func),
(72,.func),
(73,.struct [(0,1,false),(1,1,false),(2,1,false),(3,1,false),(4,1,false)]),
(74,.struct [(0,1,false),(1,1,false),(2,1,false),(3,1,false),(4,1,false)]),
(79,.struct [(0,1,false),(1,1,false),(2,1,false)]),
(80,.struct [(0,1,false),(1,1,false),(2,1,false),(3,1,false),(4,1,false),(5,3,true)]),
(81,.struct [(0,1,false),(1,1,false),(2,1,false),(3,1,false),(4,1,false),(5,3,true)]),
(83,.struct [(0,1,false),(1,1,false),(2,1,false),(3,1,false),(4,1,false),(5,1,false)]),
(85,.struct [(0,1,false),(1,1,false),(2,1,false),(3,1,false)]),
(86,.func),
(87,.func),
(88,.struct [(0,1,false),(1,1,false),(2,1,false),(3,1,false)]),
(89,.struct [(0,1,false),(1,1,false),(2,1,false),(3,1,false)]),
(90,.struct [(0,1,false),(1,1,false)]),
(91,.struct [(0,1,false),(1,1,false)]),
(96,.func),
(97,.func),
(98,.func),
(104,.int .i64),
(106,.ptr),
(107,.array 256 3 1),
(109,.func),
(110,.array 5 109 1),
(111,.struct [(0,1,false),(1,1,false),(2,256,true),(258,5,true),(263,1,false)]),
(112,.struct [(0,1,false),(1,1,false),(2,256,true),(258,5,true),(263,1,false)]),
(117,.ptr),
(118,.func),
(119,.func),
(120,.func),
(121,.ptr),
(122,.func),
(123,.func),
(125,.ptr),
(126,.func),
(127,.func),
(129,.ptr),
(130,.func),
(131,.func),
(132,.func),
(133,.ptr),
(134,.func),
(136,.func),
(137,.ptr),
(138,.func),
(139,.func),
(141,.ptr),
(142,.func),
(145,.ptr),
(146,.func),
(153,.ptr),
(154,.func),
(157,.str),
(169,.array 11 3 1),
(170,.func),
(173,.array 4 5 1),
(179,.struct [(0,1,false),(1,1,false)]),
(192,.func),
(195,.func),
(198,.func),
(220,.slice 20 1),
(229,.ptr),
(231,.ptr),
(233,.ptr)]
theorem tabU_ok:AllU Tryz.prog tabU:=allU_of (by kernel_rfl)
def tabI:List (Nat×Inf):=[(1,⟨.nilFunc,1,8⟩),
(2,⟨.int .i64 0,1,8⟩),
(3,⟨.int .i64 0,1,8⟩),
(4,⟨.bool false,1,1⟩),
(5,⟨.int .u8 0,1,1⟩),
(6,⟨.int .u8 0,1,1⟩),
(7,⟨.agg #[.int .i64 0,.int .i64 0,.bool false,.int .u8 0],4,24⟩),
(8,⟨.agg #[.int .i64 0,.int .i64 0,.bool false,.int .u8 0],4,24⟩),
(9,⟨.string ⟨#[]⟩,1,16⟩),
(10,⟨.string ⟨#[]⟩,1,16⟩),
(11,⟨.string ⟨#[]⟩,1,16⟩),
(12,⟨.int .u64 0,1,8⟩),
(13,⟨.agg #[.string ⟨#[]⟩,.int .u64 0],2,24⟩),
(14,⟨.agg #[.string ⟨#[]⟩,.int .u64 0],2,24⟩),
(15,⟨.pointer none,1,8⟩),
(16,⟨.pointer none,1,8⟩),
(17,⟨.pointer none,1,8⟩),
(18,⟨.agg #[.pointer none],1,8⟩),
(19,⟨.agg #[.pointer none],1,8⟩),
(20,⟨.nilIface,1,16⟩),
(21,⟨.int .i32 0,1,4⟩),
(22,⟨.nilFunc,1,8⟩),
(23,⟨.slice none 0 0,1,24⟩),
(24,⟨.slice none 0 0,1,24⟩),
(25,⟨.slice none 0 0,1,24⟩),
(26,⟨.slice none 0 0,1,24⟩),
(27,⟨.slice none 0 0,1,24⟩),
(28,⟨.slice none 0 0,1,24⟩),
(29,⟨.slice none 0 0,1,24⟩),
(30,⟨.slice none 0 0,1,24⟩),
(31,⟨.agg #[.slice none 0 0,.slice none 0 0,.slice none 0 0,.slice none 0 0,.slice none 0 0,.slice none 0 0,.slice none 0 0,.slice none 0 0],8,192⟩),
(32,⟨.agg #[.slice none 0 0,.slice none 0 0,.slice none 0 0,.slice none 0 0,.slice none 0 0,.slice none 0 0,.slice none 0 0,.slice none 0 0],8,192⟩),
(33,⟨.int .i64 0,1,8⟩),
(35,⟨.nilFunc,1,8⟩),
(37,⟨.nilFunc,1,8⟩),
(38,⟨.nilFunc,1,8⟩),
(41,⟨.nilFunc,1,8⟩),
(42,⟨.slice none 0 0,1,24⟩),
(45,⟨.nilFunc,1,8⟩),
(47,⟨.agg #[.int .i64 0,.int .i64 0,.string ⟨#[]⟩,.int .i64 0],4,40⟩),
(48,⟨.nilFunc,1,8⟩),
(49,⟨.agg #[.string ⟨#[]⟩,.slice none 0 0],2,40⟩),
(50,⟨.agg #[.string ⟨#[]⟩,.slice none 0 0],2,40⟩),
(51,⟨.agg #[.string ⟨#[]⟩,.string ⟨#[]⟩,.int .i64 0,.int .i64 0],4,48⟩),
(52,⟨.agg #[.string ⟨#[]⟩,.string ⟨#[]⟩,.int .i64 0,.int .i64 0],4,48⟩),
(53,⟨.slice none 0 0,1,24⟩),
(55,⟨.agg #[.int .i64 0,.int .i64 0,.string ⟨#[]⟩,.string ⟨#[]⟩,.bool false,.int .i64 0,.int .i64 0],7,72⟩),
(56,⟨.slice none 0 0,1,24⟩),
(58,⟨.agg #[.string ⟨#[]⟩,.int .i64 0,.int .i64 0],3,32⟩),
(59,⟨.slice none 0 0,1,24⟩),
(61,⟨.agg #[.string ⟨#[]⟩,.string ⟨#[]⟩,.int .i64 0,.int .i64 0,.slice none 0 0,.slice none 0 0,.slice none 0 0,.int .i64 0,.int .i64 0,.int .i64 0,.int .i64 0,.int .i64 0,.int .i64 0,.int .i64 0,.slice none 0 0,.int .i64 0,.int .i64 0],17,216⟩),
(62,⟨.agg #[.int .i64 0,.int .i64 0],2,16⟩),
(63,⟨.agg #[.int .i64 0,.int .i64 0],2,16⟩),
(65,⟨.pointer none,1,8⟩),
(67,⟨.agg #[.string ⟨#[]⟩,.slice none 0 0,.int .i64 0,.slice none 0 0,.slice none 0 0,.slice none 0 0,.slice none 0 0,.slice none 0 0,.slice none 0 0,.slice none 0 0,.slice none 0 0],11,240⟩),
(68,⟨.map none,1,8⟩),
(70,⟨.nilFunc,1,8⟩),
(72,⟨.nilFunc,1,8⟩),
(73,⟨.agg #[.slice none 0 0,.int .i64 0,.int .i64 0,.int .i64 0,.int .i64 0],5,56⟩),
(74,⟨.agg #[.slice none 0 0,.int .i64 0,.int .i64 0,.int .i64 0,.int .i64 0],5,56⟩),
(79,⟨.agg #[.bool false,.string ⟨#[]⟩,.string ⟨#[]⟩],3,40⟩),
(80,⟨.agg #[.string ⟨#[]⟩,.string ⟨#[]⟩,.int .i64 0,.int .i64 0,.int .i64 0,.bool false,.string ⟨#[]⟩,.string ⟨#[]⟩],8,96⟩),
(81,⟨.agg #[.string ⟨#[]⟩,.string ⟨#[]⟩,.int .i64 0,.int .i64 0,.int .i64 0,.bool false,.string ⟨#[]⟩,.string ⟨#[]⟩],8,96⟩),
(83,⟨.agg #[.string ⟨#[]⟩,.string ⟨#[]⟩,.int .i64 0,.int .i64 0,.int .i64 0,.int .i64 0],6,64⟩),
(85,⟨.agg #[.string ⟨#[]⟩,.string ⟨#[]⟩,.int .i64 0,.int .i64 0],4,48⟩),
(86,⟨.nilFunc,1,8⟩),
(87,⟨.nilFunc,1,8⟩),
(88,⟨.agg #[.string ⟨#[]⟩,.string ⟨#[]⟩,.int .i64 0,.int .i64 0],4,48⟩),
(89,⟨.agg #[.string ⟨#[]⟩,.string ⟨#[]⟩,.int .i64 0,.int .i64 0],4,48⟩),
(90,⟨.agg #[.slice none 0 0,.bool false],2,32⟩),
(91,⟨.agg #[.slice none 0 0,.bool false],2,32⟩),
(96,⟨.nilFunc,1,8⟩),
(97,⟨.nilFunc,1,8⟩),
(98,⟨.nilFunc,1,8⟩),
(104,⟨.int .i64 0,1,8⟩),
(106,⟨.pointer none,1,8⟩),
(107,⟨.agg #[.int .i64 0,.int .i64 0,.int .i64 0,.int .i64 0,.int .i64 0,.int .i64 0,.int .i64 0,.int .i64 0,.int .i64 0,.int .i64 0,.int .i64 0,.int .i64 0,.int .i64 0,.int .i64 0,.int .i64 0,.int .i64 0,.int .i64 0,.int .i64 0,.int .i64 0,.int .i64 0,.int .i64 0,.int .i64 0,.int .i64 0,.int .i64 0,.int .i64 0,.int .i64 0,.int .i64 0,.int .i64 0,.int .i64 0,.int .i64 0,.int .i64 0,.int .i64 0,.int .i64 0,.int .i64 0,.int .i64 0,.int .i64 0,.int .i64 0,.int .i64 0,.int .i64 0,.int .i64 0,.int .i64 0,.int .i64 0,.int .i64 0,.int .i64 0,.int .i64 0,.int .i64 0,.int .i64 0,.int .i64 0,.int .i64 0,.int .i64 0,.int .i64 0,.int .i64 0,.int .i64 0,.int .i64 0,.int .i64 0,.int .i64 0,.int .i64 0,.int .i64 0,.int .i64 0,.int .i64 0,.int .i64 0,.int .i64 0,.int .i64 0,.int .i64 0,.int .i64 0,.int .i64 0,.int .i64 0,.int .i64 0,.int .i64 0,.int .i64 0,.int .i64 0,.int .i64 0,.int .i64 0,.int .i64 0,.int .i64 0,.int .i64 0,.int .i64 0,.int .i64 0,.int .i64 0,.int .i64 0,.int .i64 0,.int .i64 0,.int .i64 0,.int .i64 0,.int .i64 0,.int .i64 0,.int .i64 0,.int .i64 0,.int .i64 0,.int .i64 0,.int .i64 0,.int .i64 0,.int .i64 0,.int .i64 0,.int .i64 0,.int .i64 0,.int .i64 0,.int .i64 0,.int .i64 0,.int .i64 0,.int .i64 0,.int .i64 0,.int .i64 0,.int .i64 0,.int .i64 0,.int .i64 0,.int .i64 0,.int .i64 0,.int .i64 0,.int .i64 0,.int .i64 0,.int .i64 0,.int .i64 0,.int .i64 0,.int .i64 0,.int .i64 0,.int .i64 0,.int .i64 0,.int .i64 0,.int .i64 0,.int .i64 0,.int .i64 0,.int .i64 0,.int .i64 0,.int .i64 0,.int .i64 0,.int .i64 0,.int .i64 0,.int .i64 0,.int .i64 0,.int .i64 0,.int .i64 0,.int .i64 0,.int .i64 0,.int .i64 0,.int .i64 0,.int .i64 0,.int .i64 0,.int .i64 0,.int .i64 0,.int .i64 0,.int .i64 0,.int .i64 0,.int .i64 0,.int .i64 0,.int .i64 0,.int .i64 0,.int .i64 0,.int .i64 0,.int .i64 0,.int .i64 0,.int .i64 0,.int .i64 0,.int .i64 0,.int .i64 0,.int .i64 0,.int .i64 0,.int .i64 0,.int .i64 0,.int .i64 0,.int .i64 0,.int .i64 0,.int .i64 0,.int .i64 0,.int .i64 0,.int .i64 0,.int .i64 0,.int .i64 0,.int .i64 0,.int .i64 0,.int .i64 0,.int .i64 0,.int .i64 0,.int .i64 0,.int .i64 0,.int .i64 0,.int .i64 0,.int .i64 0,.int .i64 0,.int .i64 0,.int .i64 0,.int .i64 0,.int .i64 0,.int .i64 0,.int .i64 0,.int .i64 0,.int .i64 0,.int .i64 0,.int .i64 0,.int .i64 0,.int .i64 0,.int .i64 0,.int .i64 0,.int .i64 0,.int .i64 0,.int .i64 0,.int .i64 0,.int .i64 0,.int .i64 0,.int .i64 0,.int .i64 0,.int .i64 0,.int .i64 0,.int .i64 0,.int .i64 0,.int .i64 0,.int .i64 0,.int .i64 0,.int .i64 0,.int .i64 0,.int .i64 0,.int .i64 0,.int .i64 0,.int .i64 0,.int .i64 0,.int .i64 0,.int .i64 0,.int .i64 0,.int .i64 0,.int .i64 0,.int .i64 0,.int .i64 0,.int .i64 0,.int .i64 0,.int .i64 0,.int .i64 0,.int .i64 0,.int .i64 0,.int .i64 0,.int .i64 0,.int .i64 0,.int .i64 0,.int .i64 0,.int .i64 0,.int .i64 0,.int .i64 0,.int .i64 0,.int .i64 0,.int .i64 0,.int .i64 0,.int .i64 0,.int .i64 0,.int .i64 0,.int .i64 0,.int .i64 0,.int .i64 0,.int .i64 0,.int .i64 0,.int .i64 0,.int .i64 0,.int .i64 0,.int .i64 0,.int .i64 0,.int .i64 0,.int .i64 0,.int .i64 0],256,2048⟩),
(109,⟨.nilFunc,1,8⟩),
(110,⟨.agg #[.nilFunc,.nilFunc,.nilFunc,.nilFunc,.nilFunc],5,40⟩),
(111,⟨.agg #[.string ⟨#[]⟩,.int .i64 0,.int .i64 0,.int .i64 0,.int .i64 0,.int .i64 0,.int .i64 0,.int .i64 0,.int .i64 0,.int .i64 0,.int .i64 0,.int .i64 0,.int .i64 0,.int .i64 0,.int .i64 0,.int .i64 0,.int .i64 0,.int .i64 0,.int .i64 0,.int .i64 0,.int .i64 0,.int .i64 0,.int .i64 0,.int .i64 0,.int .i64 0,.int .i64 0,.int .i64 0,.int .i64 0,.int .i64 0,.int .i64 0,.int .i64 0,.int .i64 0,.int .i64 0,.int .i64 0,.int .i64 0,.int .i64 0,.int .i64 0,.int .i64 0,.int .i64 0,.int .i64 0,.int .i64 0,.int .i64 0,.int .i64 0,.int .i64 0,.int .i64 0,.int .i64 0,.int .i64 0,.int .i64 0,.int .i64 0,.int .i64 0,.int .i64 0,.int .i64 0,.int .i64 0,.int .i64 0,.int .i64 0,.int .i64 0,.int .i64 0,.int .i64 0,.int .i64 0,.int .i64 0,.int .i64 0,.int .i64 0,.int .i64 0,.int .i64 0,.int .i64 0,.int .i64 0,.int .i64 0,.int .i64 0,.int .i64 0,.int .i64 0,.int .i64 0,.int .i64 0,.int .i64 0,.int .i64 0,.int .i64 0,.int .i64 0,.int .i64 0,.int .i64 0,.int .i64 0,.int .i64 0,.int .i64 0,.int .i64 0,.int .i64 0,.int .i64 0,.int .i64 0,.int .i64 0,.int .i64 0,.int .i64 0,.int .i64 0,.int .i64 0,.int .i64 0,.int .i64 0,.int .i64 0,.int .i64 0,.int .i64 0,.int .i64 0,.int .i64 0,.int .i64 0,.int .i64 0,.int .i64 0,.int .i64 0,.int .i64 0,.int .i64 0,.int .i64 0,.int .i64 0,.int .i64 0,.int .i64 0,.int .i64 0,.int .i64 0,.int .i64 0,.int .i64 0,.int .i64 0,.int .i64 0,.int .i64 0,.int .i64 0,.int .i64 0,.int .i64 0,.int .i64 0,.int .i64 0,.int .i64 0,.int .i64 0,.int .i64 0,.int .i64 0,.int .i64 0,.int .i64 0,.int .i64 0,.int .i64 0,.int .i64 0,.int .i64 0,.int .i64 0,.int .i64 0,.int .i64 0,.int .i64 0,.int .i64 0,.int .i64 0,.int .i64 0,.int .i64 0,.int .i64 0,.int .i64 0,.int .i64 0,.int .i64 0,.int .i64 0,.int .i64 0,.int .i64 0,.int .i64 0,.int .i64 0,.int .i64 0,.int .i64 0,.int .i64 0,.int .i64 0,.int .i64 0,.int .i64 0,.int .i64 0,.int .i64 0,.int .i64 0,.int .i64 0,.int .i64 0,.int .i64 0,.int .i64 0,.int .i64 0,.int .i64 0,.int .i64 0,.int .i64 0,.int .i64 0,.int .i64 0,.int .i64 0,.int .i64 0,.int .i64 0,.int .i64 0,.int .i64 0,.int .i64 0,.int .i64 0,.int .i64 0,.int .i64 0,.int .i64 0,.int .i64 0,.int .i64 0,.int .i64 0,.int .i64 0,.int .i64 0,.int .i64 0,.int .i64 0,.int .i64 0,.int .i64 0,.int .i64 0,.int .i64 0,.int .i64 0,.int .i64 0,.int .i64 0,.int .i64 0,.int .i64 0,.int .i64 0,.int .i64 0,.int .i64 0,.int .i64 0,.int .i64 0,.int .i64 0,.int .i64 0,.int .i64 0,.int .i64 0,.int .i64 0,.int .i64 0,.int .i64 0,.int .i64 0,.int .i64 0,.int .i64 0,.int .i64 0,.int .i64 0,.int .i64 0,.int .i64 0,.int .i64 0,.int .i64 0,.int .i64 0,.int .i64 0,.int .i64 0,.int .i64 0,.int .i64 0,.int .i64 0,.int .i64 0,.int .i64 0,.int .i64 0,.int .i64 0,.int .i64 0,.int .i64 0,.int .i64 0,.int .i64 0,.int .i64 0,.int .i64 0,.int .i64 0,.int .i64 0,.int .i64 0,.int .i64 0,.int .i64 0,.int .i64 0,.int .i64 0,.int .i64 0,.int .i64 0,.int .i64 0,.int .i64 0,.int .i64 0,.int .i64 0,.int .i64 0,.int .i64 0,.int .i64 0,.int .i64 0,.int .i64 0,.int .i64 0,.int .i64 0,.int .i64 0,.int .i64 0,.int .i64 0,.int .i64 0,.int .i64 0,.int .i64 0,.int .i64 0,.int .i64 0,.int .i64 0,.int .i64 0,.nilFunc,.nilFunc,.nilFunc,.nilFunc,.nilFunc,.slice none 0 0],264,2136⟩),
(112,⟨.agg #[.string ⟨#[]⟩,.int .i64 0,.int .i64 0,.int .i64 0,.int .i64 0,.int .i64 0,.int .i64 0,.int .i64 0,.int .i64 0,.int .i64 0,.int .i64 0,.int .i64 0,.int .i64 0,.int .i64 0,.int .i64 0,.int .i64 0,.int .i64 0,.int .i64 0,.int .i64 0,.int .i64 0,.int .i64 0,.int .i64 0,.int .i64 0,.int .i64 0,.int .i64 0,.int .i64 0,.int .i64 0,.int .i64 0,.int .i64 0,.int .i64 0,.int .i64 0,.int .i64 0,.int .i64 0,.int .i64 0,.int .i64 0,.int .i64 0,.int .i64 0,.int .i64 0,.int .i64 0,.int .i64 0,.int .i64 0,.int .i64 0,.int .i64 0,.int .i64 0,.int .i64 0,.int .i64 0,.int .i64 0,.int .i64 0,.int .i64 0,.int .i64 0,.int .i64 0,.int .i64 0,.int .i64 0,.int .i64 0,.int .i64 0,.int .i64 0,.int .i64 0,.int .i64 0,.int .i64 0,.int .i64 0,.int .i64 0,.int .i64 0,.int .i64 0,.int .i64 0,.int .i64 0,.int .i64 0,.int .i64 0,.int .i64 0,.int .i64 0,.int .i64 0,.int .i64 0,.int .i64 0,.int .i64 0,.int .i64 0,.int .i64 0,.int .i64 0,.int .i64 0,.int .i64 0,.int .i64 0,.int .i64 0,.int .i64 0,.int .i64 0,.int .i64 0,.int .i64 0,.int .i64 0,.int .i64 0,.int .i64 0,.int .i64 0,.int .i64 0,.int .i64 0,.int .i64 0,.int .i64 0,.int .i64 0,.int .i64 0,.int .i64 0,.int .i64 0,.int .i64 0,.int .i64 0,.int .i64 0,.int .i64 0,.int .i64 0,.int .i64 0,.int .i64 0,.int .i64 0,.int .i64 0,.int .i64 0,.int .i64 0,.int .i64 0,.int .i64 0,.int .i64 0,.int .i64 0,.int .i64 0,.int .i64 0,.int .i64 0,.int .i64 0,.int .i64 0,.int .i64 0,.int .i64 0,.int .i64 0,.int .i64 0,.int .i64 0,.int .i64 0,.int .i64 0,.int .i64 0,.int .i64 0,.int .i64 0,.int .i64 0,.int .i64 0,.int .i64 0,.int .i64 0,.int .i64 0,.int .i64 0,.int .i64 0,.int .i64 0,.int .i64 0,.int .i64 0,.int .i64 0,.int .i64 0,.int .i64 0,.int .i64 0,.int .i64 0,.int .i64 0,.int .i64 0,.int .i64 0,.int .i64 0,.int .i64 0,.int .i64 0,.int .i64 0,.int .i64 0,.int .i64 0,.int .i64 0,.int .i64 0,.int .i64 0,.int .i64 0,.int .i64 0,.int .i64 0,.int .i64 0,.int .i64 0,.int .i64 0,.int .i64 0,.int .i64 0,.int .i64 0,.int .i64 0,.int .i64 0,.int .i64 0,.int .i64 0,.int .i64 0,.int .i64 0,.int .i64 0,.int .i64 0,.int .i64 0,.int .i64 0,.int .i64 0,.int .i64 0,.int .i64 0,.int .i64 0,.int .i64 0,.int .i64 0,.int .i64 0,.int .i64 0,.int .i64 0,.int .i64 0,.int .i64 0,.int .i64 0,.int .i64 0,.int .i64 0,.int .i64 0,.int .i64 0,.int .i64 0,.int .i64 0,.int .i64 0,.int .i64 0,.int .i64 0,.int .i64 0,.int .i64 0,.int .i64 0,.int .i64 0,.int .i64 0,.int .i64 0,.int .i64 0,.int .i64 0,.int .i64 0,.int .i64 0,.int .i64 0,.int .i64 0,.int .i64 0,.int .i64 0,.int .i64 0,.int .i64 0,.int .i64 0,.int .i64 0,.int .i64 0,.int .i64 0,.int .i64 0,.int .i64 0,.int .i64 0,.int .i64 0,.int .i64 0,.int .i64 0,.int .i64 0,.int .i64 0,.int .i64 0,.int .i64 0,.int .i64 0,.int .i64 0,.int .i64 0,.int .i64 0,.int .i64 0,.int .i64 0,.int .i64 0,.int .i64 0,.int .i64 0,.int .i64 0,.int .i64 0,.int .i64 0,.int .i64 0,.int .i64 0,.int .i64 0,.int .i64 0,.int .i64 0,.int .i64 0,.int .i64 0,.int .i64 0,.int .i64 0,.int .i64 0,.int .i64 0,.int .i64 0,.int .i64 0,.int .i64 0,.int .i64 0,.int .i64 0,.int .i64 0,.int .i64 0,.int .i64 0,.int .i64 0,.int .i64 0,.int .i64 0,.int .i64 0,.nilFunc,.nilFunc,.nilFunc,.nilFunc,.nilFunc,.slice none 0 0],264,2136⟩),
(117,⟨.pointer none,1,8⟩),
(118,⟨.nilFunc,1,8⟩),
(119,⟨.nilFunc,1,8⟩),
(120,⟨.nilFunc,1,8⟩),
(121,⟨.pointer none,1,8⟩),
(122,⟨.nilFunc,1,8⟩),
(123,⟨.nilFunc,1,8⟩),
(125,⟨.pointer none,1,8⟩),
(126,⟨.nilFunc,1,8⟩),
(127,⟨.nilFunc,1,8⟩),
(129,⟨.pointer none,1,8⟩),
(130,⟨.nilFunc,1,8⟩),
(131,⟨.nilFunc,1,8⟩),
(132,⟨.nilFunc,1,8⟩),
(133,⟨.pointer none,1,8⟩),
(134,⟨.nilFunc,1,8⟩),
(136,⟨.nilFunc,1,8⟩),
(137,⟨.pointer none,1,8⟩),
(138,⟨.nilFunc,1,8⟩),
(139,⟨.nilFunc,1,8⟩),
(141,⟨.pointer none,1,8⟩),
(142,⟨.nilFunc,1,8⟩),
(145,⟨.pointer none,1,8⟩),
(146,⟨.nilFunc,1,8⟩),
(153,⟨.pointer none,1,8⟩),
(154,⟨.nilFunc,1,8⟩),
(157,⟨.string ⟨#[]⟩,1,16⟩),
(169,⟨.agg #[.int .i64 0,.int .i64 0,.int .i64 0,.int .i64 0,.int .i64 0,.int .i64 0,.int .i64 0,.int .i64 0,.int .i64 0,.int .i64 0,.int .i64 0],11,88⟩),
(170,⟨.nilFunc,1,8⟩),
(173,⟨.agg #[.int .u8 0,.int .u8 0,.int .u8 0,.int .u8 0],4,4⟩),
(179,⟨.agg #[.pointer none,.slice none 0 0],2,32⟩),
(192,⟨.nilFunc,1,8⟩),
(195,⟨.nilFunc,1,8⟩),
(198,⟨.nilFunc,1,8⟩),
(220,⟨.slice none 0 0,1,24⟩),
(229,⟨.pointer none,1,8⟩),
(231,⟨.pointer none,1,8⟩),
(233,⟨.pointer none,1,8⟩)]
theorem tabI_ok:AllI Tryz.prog tabI:=allI_of (by kernel_rfl)
def tabE:List (Nat×List Nat):=[(47,[1,1,2,1]),(52,[2,2,1,1]),(55,[1,1,2,2,0,1,1]),(58,[2,1,1]),(63,[1,1]),(79,[0,2,2]),(81,[2,2,1,1,1,0,2,2]),(83,[2,2,1,1,1,1]),(85,[2,2,1,1]),(89,[2,2,1,1])]
theorem tabE_ok:AllE Tryz.prog tabE:=allE_of (by kernel_rfl)
def tab:Tab Tryz.prog where
 und:=tabU
 okU:=tabU_ok
 inf:=tabI
 okI:=tabI_ok
 eqs:=tabE
 okE:=tabE_ok
 mixed:=by kernel_rfl
theorem eN {X:Type} {k:Nat} {E0:Env} {F:Nat→Prop} {h0:Array Obj} {J:X→Prop} {out:X→OutS} {H H':SH} {w v:SV} {n:Nat} (x:X) (hJ:J x) (hH:SubH (rn []) H (out x).heap:=by repeat (first|exact trivial|refine ⟨by rfl,?_⟩)) (hn:nodupH (rn []) (out x).heap []=true:=by rfl) (ho:out x=.ret v n H':=by rfl) (hv:w=v.ren (rn []):=by rfl):∀E h,Ag k E0 E→Sat E F H h→Kp F h0 h→EndS k E0 F h0 J out (.returned (w.g E)) h:=EndS.mk x hJ [] hH rfl hn (okRet ho hv)
theorem eX {X:Type} {k:Nat} {E0:Env} {F G F' G':Nat→Prop} {h0 hb:Array Obj} {J:X→(Nat→Prop)→Array Obj→Prop} {out:X→OutS} {H H':SH} {w v:SV} {n:Nat} (N:Now F G h0 F' G' hb) (x:X) (hJ:∀h',Up G' hb G' h'→J x G' h') (hH:SubH (rn []) H (out x).heap:=by repeat (first|exact trivial|refine ⟨by rfl,?_⟩)) (hn:nodupH (rn []) (out x).heap []=true:=by rfl) (ho:out x=.ret v n H':=by rfl) (hv:w=v.ren (rn []):=by rfl):∀E h,Ag k E0 E→Sat E F' H h→Kp F' hb h→EndX k E0 F G h0 J out (.returned (w.g E)) h:=EndX.mk N x hJ [] hH rfl hn (okRet ho hv)
theorem gS {s:SCx Tryz.prog} {ds:List SDef} {nx:Nat} {st:List SI} {l:SFr} {H:SH} (h:goS tab s.c.n s.n0 s.F s.h0 ds (fun nx st l H=>RunsS s ds nx st l H) 1000 nx st l H):RunsS s ds nx st l H:=goS_run tab 1000 nx st l H h
theorem gR {s:SCx Tryz.prog} {ds:List SDef} {all:List Oper} {st:List SI} {t:Tr} {taken:List Nat} {ps:List (Nat×SPin)} {nx:Nat} {l:SFr} {H:SH} (g:goR tab s.c.n s.n0 s.F s.h0 ds all st all.toArray (fun k keep t taken ps nx l H=>EffR s ds all st k keep t taken ps nx l H) (fun nx l H=>RunsS s ds nx st l H) t taken ps nx l H):RunsR s ds all st t taken ps nx l H:=goR_run tab t taken ps nx l H g
end Go.Proofs.YtgbeechjghajcaaGreatDoor

namespace Go.Proofs.YtgbeechjghajcaaGreatDoor
open Go Go.Fw
set_option maxRecDepth 100000
set_option maxHeartbeats 99999999
def cls (c:Nat):Int:=
 if (97≤c∧c≤122)∨(65≤c∧c≤90) then 2 else if 48≤c∧c≤57 then 3
 else if c=32∨c=9∨c=10∨c=13 then 1
 else if c ∈ [123,125,40,41,44,59,61,35,47,60,33,45,46,58,43] then 4 else 0
def clsS:List SV:=(List.range 256).map fun c=>.v (.int .i64 (cls c))
def scanS:List SV:=[.v (.func (.func 50) #[] #[]),.v (.func (.func 51) #[] #[]),.v (.func (.func 52) #[] #[]),.v (.func (.func 53) #[] #[]),.v (.func (.func 54) #[] #[])]
def scn (src:ByteArray) (pos:Int) (toks:SV):List SV:=.v (.string src)::.v (.int .i64 pos)::(clsS++(scanS++[toks]))
theorem clsS_get {c:Nat} (hc:c<256) (r:List SV):nth (clsS++r) c=some (.v (.int .i64 (cls c))):=by
 rw [nth_eq,List.getElem?_append_left (by simpa [clsS] using hc)]
 simp [clsS,hc]
theorem scn_cls {src:ByteArray} {pos:Int} {toks:SV} {c:Nat} (hc:c<256):nth (scn src pos toks) (0+(1+1)+((c:Int)).toNat*1)=some (.v (.int .i64 (cls c))):=by
 rw [show 0+(1+1)+((c:Int)).toNat*1=c+1+1 by simp;omega]
 exact clsS_get hc _
abbrev scB (src:ByteArray) (pos:Int) (b:Nat:=1):Nat×Blk:=(0,.cells 112 (scn src pos (.buf b)))
def placeP (pos:Int):List PanicEntry:=[{v:=.iface 104 (.int .i64 pos),recovered:=false}]
theorem wrong_fn (src:ByteArray) (pos:Int):FnS Tryz.prog 50 2 [.ptr 0 0] [scB src pos] (fun _:Unit=>True) (fun _=>.pan (placeP pos) 2 [scB src pos]):=by
 refine FnS.of Tryz.func50 (by kernel_rfl) rfl Tryz.ntmps50 rfl fun E0 F h w0 cs=>?_
 conv=>whnf
 refine gS ?_;conv=>whnf
 try refine RunsS.panicU ?_
 exact UnwS.pan Tryz.func50 (EndS.mk (()) (trivial) [] sH rfl rfl (okPan rfl))
theorem pass_fn (src:ByteArray) (pos:Int) (hp:0≤pos∧pos<9223372036854775807):FnS Tryz.prog 51 2 [.ptr 0 0] [scB src pos] (fun _:Unit=>True) (fun _=>.ret (.tup []) 2 [scB src (pos+1)]):=by
 refine FnS.of Tryz.func51 (by kernel_rfl) rfl Tryz.ntmps51 rfl fun E0 F h w0 cs=>?_
 conv=>whnf
 refine gS ?_;conv=>whnf
 repeat ((first|refine oM ?_|refine oL ?_|refine oR ?_);(try intro _);conv=>whnf)
 try refine RunsS.finU ?_
 exact UnwS.ret tab Tryz.func51 rfl (eN () trivial)
def runE (s:ByteArray) (p:Nat→Bool) (i:Nat):Nat:=if h:i<s.size then (if p (byteAt s i) then runE s p (i+1) else i) else i
termination_by s.size - i
theorem byteAt_lt (s:ByteArray) (i:Nat):byteAt s i<256:=UInt8.toNat_lt _
def inRun (a b f:Int) (c:Nat):Bool:=decide (cls c=a)||decide (cls c=b)||decide ((c:Int)=f)
theorem run_fn (src:ByteArray) (hs:src.size≤65536) (pos:Nat) (hp:pos≤src.size) (a b f:Int):FnS Tryz.prog 111 2 [.ptr 0 0,.v (.int .i64 a),.v (.int .i64 b),.v (.int .u8 f)] [scB src pos] (fun _:Unit=>True)
  (fun _=>.ret (.v (.int .i64 (runE src (inRun a b f) pos))) 2 [scB src pos]):=by
 obtain ⟨r,hr⟩:∃r,r=runE src (inRun a b f) pos:=⟨_,rfl⟩
 rw [←hr]
 refine FnS.of Tryz.func111 (by kernel_rfl) rfl Tryz.ntmps111 rfl fun E0 F h w0 cs=>?_
 conv=>whnf
 refine gS ?_;conv=>whnf
 refine RunsS.subR [] (RunsS.loop (fun (i:Nat)=>[(9,.v (.int .i64 i)),(3,.v (.int .u8 f)),(2,.v (.int .i64 b)),(1,.v (.int .i64 a)),(0,.ptr 0 0)]) (fun (i:Nat)=>[scB src pos]) 2 (fun (i:Nat)=>i≤src.size∧r=runE src (inRun a b f) i) (fun (i:Nat)=>src.size - i) ?round1 (pos) ?J01) sH sH
 case J01=>exact (⟨by omega,hr⟩)
 rintro i hJ back
 conv=>whnf
 refine gS ?_;conv=>whnf
 refine ⟨fun hk=>?_,fun hk=>?_⟩<;>conv=>whnf
 ·obtain ⟨c,hc⟩:∃c,c=byteAt src ((i:Int)).toNat:=⟨_,rfl⟩
  have hb:c<256:=by rw [hc];exact byteAt_lt src i
  rw [←hc]
  conv=>whnf
  repeat ((first|refine oM ?_|refine oL ?_|refine oR ?_);(try intro _);conv=>whnf)
  have hc':c=byteAt src i:=hc
  have go:inRun a b f c=true→r=runE src (inRun a b f) (i+1):=fun hp=>by
   have hu:=hJ.2
   unfold runE at hu
   rw [dif_pos (by omega),←hc',if_pos hp] at hu
   exact hu
  have no:inRun a b f c=false→r=i:=fun hp=>by
   have hu:=hJ.2
   unfold runE at hu
   rw [dif_pos (by omega),←hc',if_neg (by rw [hp];simp)] at hu
   exact hu
  rw [evO_load (scn_cls hb) (by rfl) (by rfl) (by rfl)]
  conv=>whnf
  refine ⟨fun h1=>?_,fun h1=>?_⟩<;>conv=>whnf
  ·conv=>whnf
   repeat ((first|refine oM ?_|refine oL ?_|refine oR ?_);(try intro _);conv=>whnf)
   refine RunsS.subR [] (back (i+1) (by exact (⟨by omega,go (by simp [inRun,h1])⟩)) (by (try dsimp only);omega)) sH sH
  conv=>whnf
  repeat ((first|refine oM ?_|refine oL ?_|refine oR ?_);(try intro _);conv=>whnf)
  rw [evO_load (scn_cls hb) (by rfl) (by rfl) (by rfl)]
  conv=>whnf
  refine ⟨fun h2=>?_,fun h2=>?_⟩<;>conv=>whnf
  ·conv=>whnf
   repeat ((first|refine oM ?_|refine oL ?_|refine oR ?_);(try intro _);conv=>whnf)
   refine RunsS.subR [] (back (i+1) (by exact (⟨by omega,go (by simp [inRun,h2])⟩)) (by (try dsimp only);omega)) sH sH
  conv=>whnf
  refine ⟨fun h3=>?_,fun h3=>?_⟩<;>conv=>whnf
  ·conv=>whnf
   repeat ((first|refine oM ?_|refine oL ?_|refine oR ?_);(try intro _);conv=>whnf)
   refine RunsS.subR [] (back (i+1) (by exact (⟨by omega,go (by simp [inRun,h3])⟩)) (by (try dsimp only);omega)) sH sH
  conv=>whnf
  rw [no (by simp [inRun,h1,h2,h3])]
  try refine RunsS.retU ?_
  exact UnwS.ret tab Tryz.func111 rfl (eN () trivial)
 conv=>whnf
 have hu:=hJ.2
 rw [show i=src.size by omega] at hu ⊢
 unfold runE at hu
 rw [dif_neg (by omega)] at hu
 rw [←hu]
 try refine RunsS.retU ?_
 exact UnwS.ret tab Tryz.func111 rfl (eN () trivial)
structure Tok where
 kind:Int
 pos:Int
 text:ByteArray
 n:Int
def Tok.row (t:Tok):List Value:=[.int .i64 t.kind,.int .i64 t.pos,.string t.text,.int .i64 t.n]
theorem add_fn (src:ByteArray) (pos:Int) (l:List Tok) (hl:l.length≤65536) (t:Tok) (e:Int):FnS Tryz.prog 112 2 [.ptr 0 0,.agg [.v (.int .i64 t.kind),.v (.int .i64 t.pos),.v (.string t.text),.v (.int .i64 t.n)],.v (.int .i64 e)] [scB src pos,(1,.own 47 4 (l.map Tok.row))] (fun _:Unit=>True)
  (fun _=>.ret (.tup []) 3 [scB src e 2,(2,.own 47 4 ((l++[{t with pos:=pos}]).map Tok.row))]):=by
 refine FnS.of Tryz.func112 (by kernel_rfl) rfl Tryz.ntmps112 rfl fun E0 F h w0 cs=>?_
 conv=>whnf
 refine gS ?_;conv=>whnf
 have hlen:(l.map Tok.row).length=l.length:=by simp
 refine RunsS.held tab (.fl 0 (.fl 1 (.fl 2 (.fl 3 (.fl 4 (.fl 5 (.e1 6 [4] (.e1 7 [] (.fl 8 (.fl 9 (.e1 10 [] .done))))))))))) (by kernel_rfl) ?_;conv=>whnf
 (try refine gR ?_);conv=>whnf
 repeat ((first|refine oM ?_|refine oL ?_|refine oR ?_|refine oB ?_);(try intro _);conv=>whnf)
 conv=>whnf
 refine And.intro ⟨Nat.one_pos,(show (l.map Tok.row).length+1≤9223372036854775807 by omega),(show ((l.map Tok.row).length+1)*40≤140737488355328 by omega),by decide⟩ ?_
 conv=>whnf
 repeat ((first|refine oM ?_|refine oL ?_|refine oR ?_|refine oB ?_);(try intro _);conv=>whnf)
 (try refine gS ?_);conv=>whnf
 have key:l.map Tok.row++chunk 4 1 [Value.int .i64 t.kind,.int .i64 pos,.string t.text,.int .i64 t.n]=(l++[{t with pos:=pos}]).map Tok.row:=by
  rw [List.map_append];rfl
 refine RunsS.subR (nx':=5) (l':=[]) (H':=[(4,.own 47 4 ((l++[{t with pos:=pos}]).map Tok.row)),scB src e 4]) [] ?_ trivial ⟨congrArg (fun r=>some (Blk.own _ 4 r)) key,by rfl,trivial⟩
 try refine RunsS.finU ?_
 exact UnwS.ret tab Tryz.func112 rfl (EndS.mk (()) (trivial) [(2,4)] sH rfl rfl (okRet rfl rfl))
theorem runE_ge (s:ByteArray) (p:Nat→Bool) (i:Nat):i≤runE s p i:=by
 induction h:s.size - i generalizing i with
 |zero=>
  unfold runE
  rw [dif_neg (by omega)]
  omega
 |succ n ih=>
  unfold runE
  split
  ·split
   ·exact Nat.le_trans (Nat.le_succ i) (ih (i+1) (by omega))
   omega
  omega
theorem runE_le (s:ByteArray) (p:Nat→Bool) (i:Nat) (hi:i≤s.size):runE s p i≤s.size:=by
 induction h:s.size - i generalizing i with
 |zero=>
  unfold runE
  rw [dif_neg (by omega)]
  omega
 |succ n ih=>
  unfold runE
  split
  ·split
   ·exact ih (i+1) (by omega) (by omega)
   omega
  omega
def toksB (l:List Tok) (b:Nat):Nat×Blk:=(b,.own 47 4 (l.map Tok.row))
def endO (src:ByteArray) (pos e:Nat) (l:List Tok) (t:Tok) (bad:Prop) [Decidable bad]:OutS:=
 if bad then .pan (placeP pos) 2 [scB src pos,toksB l 1] else .ret (.tup []) 3 [scB src e 2,toksB (l++[{t with pos:=pos}]) 2]
def nameE (src:ByteArray) (pos:Nat):Nat:=runE src (inRun 2 3 95) pos
theorem name_fn (src:ByteArray) (hs:src.size≤65536) (pos:Nat) (hp:pos≤src.size) (l:List Tok) (hl:l.length≤65536):FnS Tryz.prog 52 2 [.ptr 0 0] [scB src pos,toksB l 1] (fun _:Unit=>True)
  (fun _=>endO src pos (nameE src pos) l ⟨1,0,src.extract pos (nameE src pos),0⟩ (32<nameE src pos - pos)):=by
 obtain ⟨e,he⟩:∃e,e=nameE src pos:=⟨_,rfl⟩
 have h1:pos≤e:=he▸runE_ge _ _ _
 have h2:e≤src.size:=he▸runE_le _ _ _ hp
 rw [←he]
 obtain ⟨o,ho⟩:∃o,o=endO src pos e l ⟨1,0,src.extract pos e,0⟩ (32<e - pos):=⟨_,rfl⟩
 rw [←ho]
 unfold endO at ho
 refine FnS.of Tryz.func52 (by kernel_rfl) rfl Tryz.ntmps52 rfl fun E0 F h w0 cs=>?_
 conv=>whnf
 refine gS ?_;conv=>whnf
 refine RunsS.callN (run_fn src hs pos hp 2 3 95) [0,1] ?_ sH ?CNa5
 case CNa5=>rfl
 intro _ _
 conv=>whnf
 (try refine gS ?_);conv=>whnf
 rw [show runE src (inRun 2 3 95) pos=e from he.symm]
 conv=>whnf
 repeat ((first|refine oM ?_|refine oL ?_|refine oR ?_);(try intro _);conv=>whnf)
 refine ⟨fun hb=>?_,fun hb=>?_⟩<;>conv=>whnf
 ·rw [if_pos (by omega)] at ho
  subst ho
  conv=>whnf
  refine RunsS.callN (wrong_fn src pos) [0,1] ?_ sH ?CNa6
  case CNa6=>rfl
  intro _ _
  conv=>whnf
  exact UnwS.pan Tryz.func52 (EndS.mk (()) (trivial) [] sH rfl rfl (okPan rfl))
 rw [if_neg (by omega)] at ho
 subst ho
 conv=>whnf
 refine RunsS.held tab (.fl 0 (.fl 1 (.fl 2 (.fl 3 (.fl 4 (.fl 5 (.fl 6 (.fl 7 (.fl 8 (.fl 9 (.fl 10 (.fl 11 (.fl 12 (.e1 13 [] .done)))))))))))))) (by kernel_rfl) ?_;conv=>whnf
 (try refine gR ?_);conv=>whnf
 repeat ((first|refine oM ?_|refine oL ?_|refine oR ?_|refine oB ?_);(try intro _);conv=>whnf)
 conv=>whnf
 refine EffR.callN (add_fn src pos l hl ⟨1,0,src.extract pos e,0⟩ e) [0,1] ?_ sH ?CNa7
 case CNa7=>rfl
 intro _ _
 conv=>whnf
 try refine oB ?_
 (try refine gR ?_);conv=>whnf
 (try refine gS ?_);conv=>whnf
 try refine RunsS.finU ?_
 exact UnwS.ret tab Tryz.func52 rfl (EndS.mk (()) (trivial) [(2,2)] sH rfl rfl (okRet rfl rfl))

def numF (s:ByteArray) (e i acc:Nat):Option Nat:=
 if i<e then (if 10*acc+(byteAt s i - 48)≤1099511627776 then numF s e (i+1) (10*acc+(byteAt s i - 48)) else none) else some acc
termination_by e - i
def numE (src:ByteArray) (pos:Nat):Nat:=runE src (inRun 3 3 48) pos
def numO (src:ByteArray) (pos e:Nat) (l:List Tok):OutS:=
 if 1<e - pos∧byteAt src pos=48 then .pan (placeP pos) 2 [scB src pos,toksB l 1] else
 match numF src e pos 0 with
 |none=>.pan (placeP pos) 2 [scB src pos,toksB l 1]
 |some n=>.ret (.tup []) 3 [scB src e 2,toksB (l++[⟨2,pos,⟨#[]⟩,n⟩]) 2]
theorem runE_in (s:ByteArray) (p:Nat→Bool) (i:Nat):∀j,i≤j→j<runE s p i→p (byteAt s j)=true:=by
 induction h:s.size - i generalizing i with
 |zero=>
  intro j h1 h2
  unfold runE at h2
  rw [dif_neg (by omega)] at h2
  omega
 |succ n ih=>
  intro j h1 h2
  unfold runE at h2
  rw [dif_pos (by omega)] at h2
  split at h2
  ·rename_i hp
   by_cases hj:j=i
   ·rw [hj];exact hp
   exact ih (i+1) (by omega) j (by omega) h2
  omega
theorem dig_of {c:Nat} (h:inRun 3 3 48 c=true):48≤c∧c≤57:=by
 simp only [inRun,Bool.or_eq_true,decide_eq_true_eq] at h
 have:cls c=3∨c=48:=by omega
 rcases this with h|h
 ·unfold cls at h
  split at h
  ·omega
  split at h
  ·omega
  split at h
  ·omega
  split at h<;>omega
 omega
theorem number_fn (src:ByteArray) (hs:src.size≤65536) (pos:Nat) (hp:pos≤src.size) (hd:pos<numE src pos) (l:List Tok) (hl:l.length≤65536):FnS Tryz.prog 53 2 [.ptr 0 0] [scB src pos,toksB l 1] (fun _:Unit=>True)
  (fun _=>numO src pos (numE src pos) l):=by
 have hdig:=runE_in src (inRun 3 3 48) pos
 obtain ⟨e,he⟩:∃e,e=numE src pos:=⟨_,rfl⟩
 have h1:pos≤e:=he▸runE_ge _ _ _
 have h2:e≤src.size:=he▸runE_le _ _ _ hp
 rw [show runE src (inRun 3 3 48) pos=e from he.symm] at hdig
 rw [←he] at hd ⊢
 obtain ⟨o,ho⟩:∃o,o=numO src pos e l:=⟨_,rfl⟩
 rw [←ho]
 unfold numO at ho
 refine FnS.of Tryz.func53 (by kernel_rfl) rfl Tryz.ntmps53 rfl fun E0 F h w0 cs=>?_
 conv=>whnf
 refine gS ?_;conv=>whnf
 refine RunsS.callN (run_fn src hs pos hp 3 3 48) [0,1] ?_ sH ?CNa1
 case CNa1=>rfl
 intro _ _
 conv=>whnf
 (try refine gS ?_);conv=>whnf
 rw [show runE src (inRun 3 3 48) pos=e from he.symm]
 conv=>whnf
 have jT:1<e - pos→((decide (((byteAt src ((pos:Int)).toNat:Nat):Int)=48))=true↔(1<e - pos∧byteAt src pos=48)):=fun hq=>by
  rw [decide_eq_true_iff,show ((pos:Int)).toNat=pos from rfl];omega
 have jF:¬1<e - pos→(false=true↔(1<e - pos∧byteAt src pos=48)):=fun hq=>⟨fun h=>(by cases h),fun h=>absurd h.1 hq⟩
 have hdp:=dig_of (hdig pos (Nat.le_refl _) hd)
 refine RunsS.join (fun (b:Bool)=>[(25,.v (.bool b)),(2,.v (.int .i64 e)),(0,.ptr 0 0)]) (fun (b:Bool)=>[scB src pos,toksB l 1]) 2 (fun (b:Bool)=>(b=true↔(1<e - pos∧byteAt src pos=48))) ?_ (fun meet=>?_)
 rotate_left
 ·refine RunsS.held tab (.fl 0 (.fl 1 (.fl 2 (.fl 3 (.fl 4 (.fl 5 (.fl 6 (.fl 7 (.fl 8 (.fl 9 (.fl 10 (.fl 11 (.fl 12 (.fl 13 (.fl 14 (.fl 15 (.fl 16 (.fl 17 (.fl 18 .done))))))))))))))))))) (by kernel_rfl) ?_
  conv=>whnf
  (try refine gR ?_);conv=>whnf
  repeat ((first|refine oM ?_|refine oL ?_|refine oR ?_|refine oB ?_);(try intro _);conv=>whnf)
  conv=>whnf
  refine ⟨fun ha=>?_,fun ha=>?_⟩<;>conv=>whnf
  ·try refine gR ?_
   conv=>whnf
   repeat ((first|refine oM ?_|refine oL ?_|refine oR ?_|refine oB ?_);(try intro _);conv=>whnf)
   (try refine gS ?_);conv=>whnf
   refine RunsS.subR [] (meet (decide (((byteAt src ((pos:Int)).toNat:Nat):Int)=48)) (by exact (jT (by omega)))) sH sH
  (try refine gR ?_);conv=>whnf
  (try refine gS ?_);conv=>whnf
  refine RunsS.subR [] (meet (false) (by exact (jF (by omega)))) sH sH
 intro b hb
 cases b
 ·have hb:¬(1<e - pos∧byteAt src pos=48):=fun hq=>by have:=hb.2 hq;cases this
  rw [if_neg hb] at ho
  (try refine gS ?_);conv=>whnf
  refine RunsS.subR [] (RunsS.loop (fun (⟨i,a⟩:Nat×Nat)=>[(4,.v (.int .i64 i)),(3,.v (.int .i64 a)),(2,.v (.int .i64 e)),(0,.ptr 0 0)]) (fun (⟨i,a⟩:Nat×Nat)=>[scB src pos,toksB l 1]) 2 (fun (⟨i,a⟩:Nat×Nat)=>(pos≤i∧i≤e∧a≤1099511627776)∧numF src e pos 0=numF src e i a) (fun (⟨i,a⟩:Nat×Nat)=>e - i) ?round4 ((pos,0)) ?J04) sH sH
  case J04=>exact (⟨by omega,rfl⟩)
  rintro ⟨i,a⟩ hJ back
  try dsimp only at hJ back
  conv=>whnf
  try dsimp only
  refine gS ?_;conv=>whnf
  refine ⟨fun hk=>?_,fun hk=>?_⟩<;>conv=>whnf
  ·have hdi:=dig_of (hdig i (by omega) (by omega))
   obtain ⟨c,hc⟩:∃c,c=byteAt src ((i:Int)).toNat:=⟨_,rfl⟩
   have hc':byteAt src i=c:=hc.symm
   rw [hc'] at hdi
   have hm:10*(a:Int)+((c:Int) - 48)%256=((10*a+(c - 48):Nat):Int):=by omega
   conv=>whnf
   repeat ((first|refine oM ?_|refine oL ?_|refine oR ?_);(try intro _);conv=>whnf)
   rw [←hc]
   conv=>whnf
   rw [hm]
   refine ⟨fun hx=>?_,fun hx=>?_⟩<;>conv=>whnf
   ·conv=>whnf
    have hn:numF src e pos 0=none:=by
     rw [hJ.2]
     unfold numF
     rw [if_pos (by omega),hc',if_neg (by omega)]
    rw [hn] at ho
    subst ho
    refine RunsS.callN (wrong_fn src pos) [0,1] ?_ sH ?CNa5
    case CNa5=>rfl
    intro _ _
    conv=>whnf
    exact UnwS.pan Tryz.func53 (EndS.mk (()) (trivial) [] sH rfl rfl (okPan rfl))
   conv=>whnf
   repeat ((first|refine oM ?_|refine oL ?_|refine oR ?_);(try intro _);conv=>whnf)
   have hn:numF src e pos 0=numF src e (i+1) (10*a+(c - 48)):=by
    rw [hJ.2]
    conv=>lhs;unfold numF
    rw [if_pos (by omega),hc',if_pos (by omega)]
   refine RunsS.subR [] (back ((i+1,10*a+(c - 48))) (by exact (⟨by omega,hn⟩)) (by (try dsimp only);omega)) sH sH
  have hn:numF src e pos 0=some a:=by
   rw [hJ.2]
   unfold numF
   rw [if_neg (by omega)]
  rw [hn] at ho
  subst ho
  conv=>whnf
  refine RunsS.callN (add_fn src pos l hl ⟨2,0,⟨#[]⟩,a⟩ e) [0,1] ?_ sH ?CNa7
  case CNa7=>rfl
  intro _ _
  conv=>whnf
  (try refine gS ?_);conv=>whnf
  try refine RunsS.finU ?_
  exact UnwS.ret tab Tryz.func53 rfl (EndS.mk (()) (trivial) [(2,2)] sH rfl rfl (okRet rfl rfl))
 rw [if_pos (hb.1 rfl)] at ho
 subst ho
 (try refine gS ?_);conv=>whnf
 refine RunsS.callN (wrong_fn src pos) [0,1] ?_ sH ?CNa8
 case CNa8=>rfl
 intro _ _
 conv=>whnf
 exact UnwS.pan Tryz.func53 (EndS.mk (()) (trivial) [] sH rfl rfl (okPan rfl))
theorem slHasPrefix_fn {h:Array Obj} (s p:ByteArray):FnV Tryz.prog 151 #[.string s,.string p] h fun r h'=>r=.bool (decide (p.size≤s.size∧s.extract 0 p.size=p))∧Keeps h.size h h':=by
 refine Fn.ofS (args:=[.string s,.string p]) Tryz.func151 (by kernel_rfl) rfl Tryz.ntmps151 rfl fun w0 cs=>?_
 conv=>whnf
 refine gS ?_;conv=>whnf
 refine ⟨fun hl=>?_,fun hl=>?_⟩<;>conv=>whnf
 ·conv=>whnf
  repeat ((first|refine oM ?_|refine oL ?_|refine oR ?_);(try intro _);conv=>whnf)
  refine RunsS.retU (UnwS.ret tab Tryz.func151 rfl fun Ez Hz Az Sz K=>⟨_,rfl,?_,K.keeps⟩)
  refine congrArg Value.bool (decide_eq_decide.2 ?_)
  exact ⟨fun e=>⟨by omega,e⟩,fun e=>e.2⟩
 conv=>whnf
 refine RunsS.retU (UnwS.ret tab Tryz.func151 rfl fun Ez Hz Az Sz K=>⟨_,rfl,?_,K.keeps⟩)
 exact congrArg Value.bool (decide_eq_false (fun e=>hl (by omega))).symm
theorem HasPrefix_fn {h:Array Obj} (s p:ByteArray):FnV Tryz.prog 113 #[.string s,.string p] h fun r h'=>r=.bool (decide (p.size≤s.size∧s.extract 0 p.size=p))∧Keeps h.size h h':=by
 refine Fn.ofS (args:=[.string s,.string p]) Tryz.func113 (by kernel_rfl) rfl Tryz.ntmps113 rfl fun w0 cs=>?_
 conv=>whnf
 refine gS ?_;conv=>whnf
 refine RunsS.callV (fun Ez Hz Az Sz K=>slHasPrefix_fn s p) ?_
 conv=>whnf
 (try refine gS ?_);conv=>whnf
 refine RunsS.retU (UnwS.ret tab Tryz.func113 rfl fun _ _ _ _ K=>⟨_,rfl,rfl,K.keeps⟩)
def notLf (c:Nat):Bool:=!(c==10)
abbrev comm (src:ByteArray) (pos:Nat):Prop:=(⟨#[47,47]⟩:ByteArray).size≤(src.extract pos src.size).size∧(src.extract pos src.size).extract 0 (⟨#[47,47]⟩:ByteArray).size=⟨#[47,47]⟩
def signO (src:ByteArray) (pos:Nat) (l:List Tok):OutS:=
 if comm src pos then .ret (.tup []) 2 [scB src (runE src notLf pos),toksB l 1]
 else .ret (.tup []) 3 [scB src (pos+1) 2,toksB (l++[⟨3,pos,src.extract pos (pos+1),0⟩]) 2]
theorem sign_fn (src:ByteArray) (hs:src.size≤65536) (pos:Nat) (hp:pos<src.size) (l:List Tok) (hl:l.length≤65536):FnS Tryz.prog 54 2 [.ptr 0 0] [scB src pos,toksB l 1] (fun _:Unit=>True)
  (fun _=>signO src pos l):=by
 obtain ⟨o,ho⟩:∃o,o=signO src pos l:=⟨_,rfl⟩
 rw [←ho]
 unfold signO at ho
 refine FnS.of Tryz.func54 (by kernel_rfl) rfl Tryz.ntmps54 rfl fun E0 F h w0 cs=>?_
 conv=>whnf
 refine gS ?_;conv=>whnf
 refine RunsS.held tab (.fl 0 (.fl 1 (.fl 2 (.fl 3 (.fl 4 (.fl 5 (.fl 6 (.fl 7 (.fl 8 (.e1 9 [] (.fl 10 .done))))))))))) (by kernel_rfl) ?_;conv=>whnf
 (try refine gR ?_);conv=>whnf
 repeat ((first|refine oM ?_|refine oL ?_|refine oR ?_|refine oB ?_);(try intro _);conv=>whnf)
 conv=>whnf
 by_cases hq:comm src pos
 rotate_left
 ·rw [if_neg hq] at ho
  subst ho
  refine EffR.callV (fun Ez Hz Az Sz K=>HasPrefix_fn (src.extract pos src.size) ⟨#[47,47]⟩) (by (conv=>whnf);(repeat (guard_target=_∧_;refine And.intro (by (conv=>whnf);first|rfl|exact trivial) ?_;conv=>whnf));exact trivial) ?_
  conv=>whnf
  rw [decide_eq_false hq]
  try dsimp only
  (try refine gR ?_);conv=>whnf
  (try refine gS ?_);conv=>whnf
  refine RunsS.held tab (.fl 0 (.fl 1 (.fl 2 (.fl 3 (.fl 4 (.fl 5 (.fl 6 (.fl 7 (.fl 8 (.fl 9 (.fl 10 (.fl 11 (.fl 12 (.fl 13 (.fl 14 (.fl 15 (.fl 16 (.fl 17 (.fl 18 (.fl 19 (.fl 20 (.e1 21 [] .done)))))))))))))))))))))) (by kernel_rfl) ?_;conv=>whnf
  (try refine gR ?_);conv=>whnf
  repeat ((first|refine oM ?_|refine oL ?_|refine oR ?_|refine oB ?_);(try intro _);conv=>whnf)
  conv=>whnf
  refine EffR.callN (add_fn src pos l hl ⟨3,0,src.extract pos (pos+1),0⟩ (pos+1)) [0,1] ?_ sH ?CNa9
  case CNa9=>rfl
  intro _ _
  conv=>whnf
  try refine oB ?_
  (try refine gR ?_);conv=>whnf
  (try refine gS ?_);conv=>whnf
  try refine RunsS.retU ?_
  exact UnwS.ret tab Tryz.func54 rfl (EndS.mk (()) (trivial) [(2,2)] sH rfl rfl (okRet rfl rfl))
 rw [if_pos hq] at ho
 refine EffR.callV (fun Ez Hz Az Sz K=>HasPrefix_fn (src.extract pos src.size) ⟨#[47,47]⟩) (by (conv=>whnf);(repeat (guard_target=_∧_;refine And.intro (by (conv=>whnf);first|rfl|exact trivial) ?_;conv=>whnf));exact trivial) ?_
 conv=>whnf
 rw [decide_eq_true hq]
 try dsimp only
 (try refine gR ?_);conv=>whnf
 (try refine gS ?_);conv=>whnf
 refine RunsS.subR [] (RunsS.loop (fun (i:Nat)=>[(0,.ptr 0 0)]) (fun (i:Nat)=>[scB src i,toksB l 1]) 2 (fun (i:Nat)=>(pos≤i∧i≤src.size)∧runE src notLf pos=runE src notLf i) (fun (i:Nat)=>src.size - i) ?round10 (pos) ?J010) sH sH
 case J010=>exact (⟨by omega,rfl⟩)
 rintro i hJ back
 conv=>whnf
 refine gS ?_;conv=>whnf
 refine RunsS.held tab (.fl 0 (.fl 1 (.fl 2 (.fl 3 (.fl 4 (.fl 5 (.fl 6 (.fl 7 (.fl 8 (.fl 9 (.fl 10 (.fl 11 (.fl 12 (.fl 13 (.fl 14 (.fl 15 (.fl 16 (.fl 17 (.fl 18 (.fl 19 (.fl 20 (.fl 21 .done)))))))))))))))))))))) (by kernel_rfl) ?_;conv=>whnf
 (try refine gR ?_);conv=>whnf
 conv=>whnf
 refine ⟨fun hk=>?_,fun hk=>?_⟩<;>conv=>whnf
 ·try refine gR ?_
  conv=>whnf
  repeat ((first|refine oM ?_|refine oL ?_|refine oR ?_|refine oB ?_);(try intro _);conv=>whnf)
  conv=>whnf
  refine ⟨fun hx=>?_,fun hx=>?_⟩<;>conv=>whnf
  ·try refine gR ?_
   conv=>whnf
   (try refine gS ?_);conv=>whnf
   have hx':byteAt src i=10:=by exact_mod_cast hx
   have hn:runE src notLf pos=i:=by
    rw [hJ.2]
    unfold runE
    rw [dif_pos (by omega),hx'];rfl
   rw [hn] at ho
   subst ho
   conv=>whnf
   try refine RunsS.finU ?_
   exact UnwS.ret tab Tryz.func54 rfl (eN () trivial)
  (try refine gR ?_);conv=>whnf
  (try refine gS ?_);conv=>whnf
  repeat ((first|refine oM ?_|refine oL ?_|refine oR ?_);(try intro _);conv=>whnf)
  have hx':¬byteAt src i=10:=fun e=>hx (by exact_mod_cast e)
  have hn:runE src notLf pos=runE src notLf (i+1):=by
   rw [hJ.2]
   conv=>lhs;unfold runE
   rw [dif_pos (by omega),if_pos (by simp [notLf,hx'])]
  refine RunsS.subR [] (back (i+1) (by exact (⟨by omega,hn⟩)) (by (try dsimp only);omega)) sH sH
 (try refine gR ?_);conv=>whnf
 (try refine gS ?_);conv=>whnf
 have hn:runE src notLf pos=i:=by
  rw [hJ.2]
  unfold runE
  rw [dif_neg (by omega)]
 rw [hn] at ho
 subst ho
 conv=>whnf
 try refine RunsS.finU ?_
 exact UnwS.ret tab Tryz.func54 rfl (eN () trivial)

theorem classes_fn {h:Array Obj}:FnV Tryz.prog 49 #[] h fun r h'=>r=.agg (SV.gs (fun _=>undef) clsS).toArray∧Keeps h.size h h':=by
 refine Fn.ofS (args:=[]) Tryz.func49 (by kernel_rfl) rfl Tryz.ntmps49 rfl fun w0 cs=>?_
 conv=>whnf
 refine gS ?_;conv=>whnf
 repeat ((first|refine RunsS.againU ?_|refine RunsS.loopU ?_|(refine RunsS.indexV tab ?_ ?hmx;(case hmx=>decide)));(conv=>whnf);refine gS ?_;(conv=>whnf);repeat ((first|refine And.intro (by decide) ?_|refine And.intro (fun _=>?_) (fun hn=>absurd (by decide) hn)|refine And.intro (fun hp=>absurd hp (by decide)) (fun _=>?_));(conv=>whnf)))
 refine RunsS.retU (UnwS.ret tab Tryz.func49 rfl fun Ez Hz Az Sz K=>⟨_,rfl,?_,K.keeps⟩)
 kernel_rfl

theorem lexDN_fn:FnDS Tryz.prog 48 3 [.ptr 0 0,.ptr 1 0,.ptr 2 0] [] .returning (fun _:Unit=>True) (fun _=>⟨.returning,3,[]⟩):=by
 refine FnDS.of Tryz.func48 (by kernel_rfl) rfl Tryz.ntmps48 rfl fun E0 F h w0 c0 cs=>?_
 (try refine gS ?_);conv=>whnf
 refine RunsS.recoverN ?_
 (try refine gS ?_);conv=>whnf
 refine RunsS.effV (fun E h=>eff_neNil0 Tryz.underlying20) ?_
 (try refine gS ?_);conv=>whnf
 refine RunsS.finU (UnwS.retD tab Tryz.func48 rfl (EndD.mk () trivial [] trivial rfl rfl rfl))
theorem lexDP_fn (x y z:Value) (pos:Int):FnDS Tryz.prog 48 3 [.ptr 0 0,.ptr 1 0,.ptr 2 0] [(0,.cells 42 [.v x]),(1,.cells 3 [.v y]),(2,.cells 33 [.v z])] (.panicking (placeP pos)) (fun _:Unit=>True)
  (fun _=>⟨.panicking [{v:=.iface 104 (.int .i64 pos),recovered:=true}],3,[(0,.cells 42 [.v (.slice none 0 0)]),(1,.cells 3 [.v (.int .i64 pos)]),(2,.cells 33 [.v (.int .i64 50)])]⟩):=by
 refine FnDS.of Tryz.func48 (by kernel_rfl) rfl Tryz.ntmps48 rfl fun E0 F h w0 c0 cs=>?_
 (try refine gS ?_);conv=>whnf
 refine RunsS.recoverP ?_
 (try refine gS ?_);conv=>whnf
 refine RunsS.effV (fun E h=>eff_assert Tryz.underlying104 (fun _ e=>by cases e)) ?_
 (try refine gS ?_);conv=>whnf
 refine RunsS.finU (UnwS.retD tab Tryz.func48 rfl (EndD.mk () trivial [] ⟨by rfl,by rfl,by rfl,trivial⟩ rfl rfl rfl))
end Go.Proofs.YtgbeechjghajcaaGreatDoor

namespace Go.Proofs.YtgbeechjghajcaaGreatDoor
open Go Go.Fw
def stepL (src:ByteArray) (pos:Nat) (l:List Tok):Option (Nat×List Tok):=
 let k:=cls (byteAt src pos)
 if k=0 then none
 else if k=1 then some (pos+1,l)
 else if k=2 then (if 32<nameE src pos - pos then none else some (nameE src pos,l++[⟨1,pos,src.extract pos (nameE src pos),0⟩]))
 else if k=3 then (if 1<numE src pos - pos∧byteAt src pos=48 then none else
  match numF src (numE src pos) pos 0 with
  |none=>none
  |some n=>some (numE src pos,l++[⟨2,pos,⟨#[]⟩,n⟩]))
 else (if comm src pos then some (runE src notLf pos,l) else some (pos+1,l++[⟨3,pos,src.extract pos (pos+1),0⟩]))
theorem runE_gt {s:ByteArray} {p:Nat→Bool} {i:Nat} (hi:i<s.size) (hp:p (byteAt s i)=true):i<runE s p i:=by
 unfold runE
 rw [dif_pos hi,if_pos hp]
 have:=runE_ge s p (i+1)
 omega
theorem stepL_ok {src:ByteArray} {pos:Nat} {l:List Tok} (hp:pos<src.size) {p':Nat} {l':List Tok} (h:stepL src pos l=some (p',l')):pos<p'∧p'≤src.size∧l'.length≤l.length+1:=by
 have hin:∀ {a b f:Int},cls (byteAt src pos)=a→inRun a b f (byteAt src pos)=true:=fun h=>by simp [inRun,h]
 simp only [stepL] at h
 split at h
 ·cases h
 split at h
 ·cases h
  exact ⟨by omega,by omega,by omega⟩
 split at h
 ·rename_i hk
  split at h
  ·cases h
  cases h
  exact ⟨runE_gt hp (hin hk),runE_le _ _ _ (by omega),by simp⟩
 split at h
 ·rename_i hk
  split at h
  ·cases h
  split at h
  ·cases h
  cases h
  exact ⟨runE_gt hp (hin hk),runE_le _ _ _ (by omega),by simp⟩
 split at h
 ·rename_i hc
  cases h
  refine ⟨runE_gt hp ?_,runE_le _ _ _ (by omega),by omega⟩
  by_cases h10:byteAt src pos=10
  ·rename_i h1 _ _
   exact absurd (by rw [h10];decide) h1
  simp [notLf,h10]
 cases h
 exact ⟨by omega,by omega,by simp⟩
def lexG (src:ByteArray) (pos:Nat) (l:List Tok):List Tok ⊕ Nat:=
 if hp:pos<src.size then
  match h:stepL src pos l with
  |none=>.inr pos
  |some (p',l')=>lexG src p' l'
 else .inl l
termination_by src.size - pos
decreasing_by
 have:=stepL_ok hp h
 omega

abbrev Bs:=List UInt8
abbrev bs (s:ByteArray):Bs:=s.data.toList
theorem bs_len (s:ByteArray):(bs s).length=s.size:=rfl
theorem bs_drop {s:ByteArray} {i:Nat} (hi:i<s.size):∃c,(bs s).drop i=c::(bs s).drop (i+1)∧c.toNat=byteAt s i:=by
 refine ⟨(bs s)[i]'hi,List.drop_eq_getElem_cons hi,?_⟩
 unfold byteAt
 rw [List.getD_eq_getElem?_getD,List.getElem?_eq_getElem hi];rfl
theorem bs_extract (s:ByteArray) (i j:Nat):bs (s.extract i j)=((bs s).take j).drop i:=by
 simp [bs,List.drop_take]
def runL (p:Nat→Bool):Bs→Nat
 | []=>0
 |c::r=>if p c.toNat then runL p r+1 else 0
theorem runL_le (p:Nat→Bool):∀b,runL p b≤b.length
 | []=>Nat.le_refl _
 |c::r=>by
  have:=runL_le p r
  simp only [runL,List.length_cons]
  split<;>omega
theorem runL_app (p:Nat→Bool) (y:Bs):∀b,runL p (b++y)=if runL p b=b.length then b.length+runL p y else runL p b
 | []=>by simp [runL]
 |c::r=>by
  simp only [List.cons_append,runL,List.length_cons]
  rw [runL_app p y r]
  have:=runL_le p r
  by_cases hp:p c.toNat=true
  ·simp only [hp,if_true]
   split<;>split<;>omega
  simp [hp]
theorem runL_take (p:Nat→Bool):∀(b:Bs) (q:Nat),runL p b≤q→runL p (b.take q)=runL p b
 | [],q,_=>by simp [runL]
 |c::r,0,h=>by
  simp only [runL] at h ⊢
  split at h
  ·omega
  simp [runL, *]
 |c::r,q+1,h=>by
  simp only [List.take_succ_cons,runL] at h ⊢
  split at h
  ·rename_i hp
   rw [runL_take p r q (by omega),if_pos hp]
  rename_i hp
  simp [hp]
theorem runL_all {p:Nat→Bool}:∀ {b:Bs},(∀c∈b,p c.toNat=true)→runL p b=b.length
 | [],_=>rfl
 |c::r,h=>by
  simp only [runL,List.length_cons,h c (List.mem_cons_self ..),if_true]
  rw [runL_all fun c hc=>h c (List.mem_cons_of_mem _ hc)]
theorem runL_mem {p:Nat→Bool}:∀ {b:Bs},∀c∈b.take (runL p b),p c.toNat=true
 | [],c,h=>by simp at h
 |x::r,c,h=>by
  simp only [runL] at h
  split at h
  ·rename_i hp
   simp only [List.take_succ_cons,List.mem_cons] at h
   rcases h with rfl|h
   ·exact hp
   exact runL_mem c h
  simp at h
theorem runL_pos {p:Nat→Bool} {c:UInt8} {r:Bs} (h:p c.toNat=true):0<runL p (c::r):=by simp [runL,h]
theorem runE_eq (s:ByteArray) (p:Nat→Bool) (i:Nat) (hi:i≤s.size):runE s p i=i+runL p ((bs s).drop i):=by
 induction h:s.size - i generalizing i with
 |zero=>
  unfold runE
  rw [dif_neg (by omega),List.drop_eq_nil_of_le (by rw [bs_len];omega)];rfl
 |succ n ih=>
  obtain ⟨c,h1,h2⟩:=bs_drop (s:=s) (i:=i) (by omega)
  unfold runE
  rw [dif_pos (by omega),h1,←h2]
  simp only [runL]
  split
  ·rw [ih (i+1) (by omega) (by omega)];omega
  omega
def numL:Bs→Nat→Option Nat
 | [],a=>some a
 |c::r,a=>if 10*a+(c.toNat - 48)≤1099511627776 then numL r (10*a+(c.toNat - 48)) else none
theorem numF_eq (s:ByteArray) (e:Nat) (he:e≤s.size) (i a:Nat):numF s e i a=numL (((bs s).take e).drop i) a:=by
 induction h:e - i generalizing i a with
 |zero=>
  unfold numF
  rw [if_neg (by omega),List.drop_eq_nil_of_le (by simp;omega)];rfl
 |succ n ih=>
  unfold numF
  have hi:i<((bs s).take e).length:=by rw [List.length_take,bs_len];omega
  rw [if_pos (by omega),List.drop_eq_getElem_cons hi]
  simp only [numL]
  have hb:byteAt s i=(((bs s).take e)[i]'hi).toNat:=by
   rw [List.getElem_take]
   unfold byteAt
   rw [List.getD_eq_getElem?_getD,List.getElem?_eq_getElem (by rw [List.length_take,bs_len] at hi;rw [show s.data.toList.length=s.size from rfl];omega)];rfl
  rw [hb]
  split
  ·exact ih (i+1) _ (by omega)
  rfl
inductive Tk where
 |name (b:Bs)
 |num (n:Nat)
 |sign (c:UInt8)
def Tk.tok (p:Nat):Tk→Tok
 | .name b=>⟨1,p,⟨b.toArray⟩,0⟩
 | .num n=>⟨2,p,⟨#[]⟩,n⟩
 | .sign c=>⟨3,p,⟨#[c]⟩,0⟩
def nmC:Nat→Bool:=inRun 2 3 95
def dgC:Nat→Bool:=inRun 3 3 48
def stepS:Bs→Option (Option Tk×Nat)
 | []=>none
 |c::r=>
  if cls c.toNat=0 then none
  else if cls c.toNat=1 then some (none,1)
  else if cls c.toNat=2 then (if 32<runL nmC (c::r) then none else some (some (.name ((c::r).take (runL nmC (c::r)))),runL nmC (c::r)))
  else if cls c.toNat=3 then (if 1<runL dgC (c::r)∧c.toNat=48 then none else
   match numL ((c::r).take (runL dgC (c::r))) 0 with
   |none=>none
   |some n=>some (some (.num n),runL dgC (c::r)))
  else if c=47∧r.head? = some 47 then some (none,runL notLf (c::r))
  else some (some (.sign c),1)
theorem stepS_ok {b:Bs} {t:Option Tk} {k:Nat} (h:stepS b=some (t,k)):0<k∧k≤b.length:=by
 cases b with
 |nil=>cases h
 |cons c r=>
  have hin:∀ {a b f:Int},cls c.toNat=a→inRun a b f c.toNat=true:=fun h=>by simp [inRun,h]
  simp only [stepS] at h
  repeat' (split at h)
  all_goals first|(cases h;done)|skip
  all_goals cases h
  ·simp
  ·exact ⟨runL_pos (hin (by assumption)),runL_le _ _⟩
  ·exact ⟨runL_pos (hin (by assumption)),runL_le _ _⟩
  ·rename_i hc
   exact ⟨runL_pos (by rw [hc.1];decide),runL_le _ _⟩
  simp
def addTk (p:Nat) (t:Option Tk) (l:List (Nat×Tk)):List (Nat×Tk):=match t with
 |none=>l
 |some t=>(p,t)::l
def lexN:Nat→Bs→Nat→List (Nat×Tk) ⊕ Nat
 |0,_,_=>.inl []
 |_+1,[],_=>.inl []
 |f+1,c::r,p=>match stepS (c::r) with
  |none=>.inr p
  |some (t,k)=>match lexN f ((c::r).drop k) (p+k) with
   | .inr q=>.inr q
   | .inl l=>.inl (addTk p t l)
def lexS (b:Bs) (p:Nat):List (Nat×Tk) ⊕ Nat:=lexN b.length b p
theorem lexN_more:∀(f:Nat) (b:Bs) (p:Nat),b.length≤f→lexN f b p=lexN b.length b p:=by
 intro f
 induction f using Nat.strongRecOn with
 |_ f ih=>
  intro b p hf
  cases b with
  |nil=>cases f<;>rfl
  |cons c r=>
   cases f with
   |zero=>simp at hf
   |succ f=>
    simp only [lexN,List.length_cons] at hf ⊢
    split
    ·rfl
    rename_i t k hk
    have:=stepS_ok hk
    simp only [List.length_cons] at this
    rw [ih f (by omega) _ _ (by simp;omega),ih r.length (by omega) _ _ (by simp;omega)]
theorem lexS_nil (p:Nat):lexS [] p=.inl []:=rfl
theorem lexS_cons {b:Bs} (hb:b ≠ []) (p:Nat):lexS b p=match stepS b with
  |none=>.inr p
  |some (t,k)=>match lexS (b.drop k) (p+k) with
   | .inr q=>.inr q
   | .inl l=>.inl (addTk p t l):=by
 cases b with
 |nil=>exact absurd rfl hb
 |cons c r=>
  unfold lexS
  simp only [List.length_cons,lexN]
  split
  ·rfl
  rename_i t k hk
  have:=stepS_ok hk
  simp only [List.length_cons] at this
  rw [lexN_more r.length _ _ (by simp;omega)]
theorem lexS_step {b:Bs} {p k:Nat} {t:Option Tk} (h:stepS b=some (t,k)):lexS b p=match lexS (b.drop k) (p+k) with
   | .inr q=>.inr q
   | .inl l=>.inl (addTk p t l):=by
 have hb:b ≠ []:=fun e=>by rw [e] at h;cases h
 rw [lexS_cons hb,h]
theorem toArray_ext (s:ByteArray):(⟨(bs s).toArray⟩:ByteArray)=s:=by cases s;rfl
theorem stepL_eq (src:ByteArray) (pos:Nat) (hp:pos<src.size) (l:List Tok):stepL src pos l=match stepS ((bs src).drop pos) with
  |none=>none
  |some (t,k)=>some (pos+k,l++(addTk pos t []).map fun q=>q.2.tok q.1):=by
 obtain ⟨c,h1,h2⟩:=bs_drop hp
 have hn:nameE src pos=pos+runL nmC ((bs src).drop pos):=runE_eq _ _ _ (by omega)
 have hd:numE src pos=pos+runL dgC ((bs src).drop pos):=runE_eq _ _ _ (by omega)
 have hl:runE src notLf pos=pos+runL notLf ((bs src).drop pos):=runE_eq _ _ _ (by omega)
 have hx:∀k,src.extract pos (pos+k)=⟨(((bs src).drop pos).take k).toArray⟩:=fun k=>by
  rw [←toArray_ext (src.extract pos (pos+k)),bs_extract,List.take_drop,Nat.add_comm]
 have hdl:runL dgC ((bs src).drop pos)≤src.size - pos:=by
  have:=runL_le dgC ((bs src).drop pos)
  rwa [List.length_drop,bs_len] at this
 have hf:numF src (numE src pos) pos 0=numL (((bs src).drop pos).take (runL dgC ((bs src).drop pos))) 0:=by
  rw [hd,numF_eq _ _ (by omega),List.take_drop,Nat.add_comm]
 have hcm:comm src pos↔(c=47∧((bs src).drop (pos+1)).head? = some 47):=by
  have e0:src.extract pos src.size=⟨((bs src).drop pos).toArray⟩:=by
   rw [←toArray_ext (src.extract pos src.size),bs_extract,List.take_of_length_le (by rw [bs_len];exact Nat.le_refl _)]
  unfold comm
  rw [e0,h1]
  cases hr:(bs src).drop (pos+1) with
  |nil=>
   constructor
   ·intro h
    have:=h.1
    simp [ByteArray.size] at this
   rintro ⟨_,h⟩
   simp at h
  |cons d r=>
   constructor
   ·rintro ⟨_,h⟩
    have h:=congrArg bs h
    rw [bs_extract] at h
    simp [ByteArray.size,bs] at h
    simp [h.1,h.2]
   rintro ⟨rfl,h⟩
   simp at h
   subst h
   refine ⟨by simp [ByteArray.size],?_⟩
   rw [←toArray_ext (ByteArray.extract _ _ _),bs_extract]
   simp [ByteArray.size,bs]
 rw [hd] at hf
 simp only [stepL,hn,hd,hl,hf,hcm,←h2,Nat.add_sub_cancel_left,hx]
 rw [h1]
 simp only [stepS]
 split
 ·rfl
 split
 ·simp [addTk]
 split
 ·split
  ·rfl
  simp [addTk,Tk.tok]
 split
 ·split
  ·rfl
  split<;>simp_all [addTk,Tk.tok]
 split
 ·simp [addTk]
 simp [addTk,Tk.tok]
def toksP (l:List (Nat×Tk)):List Tok:=l.map fun q=>q.2.tok q.1
theorem lexG_eq (src:ByteArray) (pos:Nat) (hp:pos≤src.size) (l:List Tok):lexG src pos l=match lexS ((bs src).drop pos) pos with
  | .inl l'=>.inl (l++toksP l')
  | .inr q=>.inr q:=by
 induction h:src.size - pos using Nat.strongRecOn generalizing pos l with
 |_ n ih=>
  unfold lexG
  split
  ·rename_i hlt
   have hs:=stepL_eq src pos hlt l
   have hne:(bs src).drop pos ≠ []:=fun e=>by
    have:=congrArg List.length e
    rw [List.length_drop,bs_len] at this
    simp at this
    omega
   rw [lexS_cons hne]
   split
   ·rename_i h0
    rw [h0] at hs
    cases hss:stepS ((bs src).drop pos) with
    |none=>rfl
    |some q=>rw [hss] at hs;cases hs
   rename_i p' l' h0
   have hok:=stepL_ok hlt h0
   rw [h0] at hs
   cases hss:stepS ((bs src).drop pos) with
   |none=>rw [hss] at hs;cases hs
   |some q=>
    obtain ⟨t,k⟩:=q
    rw [hss] at hs
    simp only [Option.some.injEq,Prod.mk.injEq] at hs
    obtain ⟨rfl,rfl⟩:=hs
    rw [ih _ (by omega) (pos+k) (by omega) _ rfl]
    dsimp only
    rw [List.drop_drop]
    cases lexS ((bs src).drop (pos+k)) (pos+k) with
    |inr q=>rfl
    |inl l'=>cases t<;>simp [addTk,toksP]
  rw [List.drop_eq_nil_of_le (by rw [bs_len];omega)]
  simp [lexS_nil,toksP]
end Go.Proofs.YtgbeechjghajcaaGreatDoor

namespace Go.Proofs.YtgbeechjghajcaaGreatDoor
open Go Go.Fw
set_option maxRecDepth 100000
set_option maxHeartbeats 99999999
theorem big_fn {h:Array Obj} (src:ByteArray) (hs:65536<src.size):FnV Tryz.prog 19 #[.string src] h fun r h'=>r=.tuple #[.slice none 0 0,.int .i64 0,.int .i64 2]∧Keeps h.size h h':=by
 refine Fn.ofS (args:=[.string src]) Tryz.func19 (by kernel_rfl) rfl Tryz.ntmps19 rfl fun w0 cs=>?_
 conv=>whnf
 refine gS ?_;conv=>whnf
 repeat ((first|refine oM ?_|refine oL ?_|refine oR ?_);(try intro _);conv=>whnf)
 refine RunsS.retU (UnwS.ret tab Tryz.func19 rfl fun _ _ _ _ K=>⟨_,rfl,rfl,K.keeps⟩)
def lexA (src:ByteArray):List Tok ⊕ Nat:=lexG src 0 []
def lexO (src:ByteArray):OutS:=match lexA src with
 | .inl l=>.ret (.tup [.buf 0,.v (.int .i64 0),.v (.int .i64 0)]) 1 [toksB l 0]
 | .inr p=>.ret (.tup [.v (.slice none 0 0),.v (.int .i64 p),.v (.int .i64 50)]) 0 []
theorem lexG_none {src:ByteArray} {pos:Nat} {l:List Tok} (hp:pos<src.size) (h:stepL src pos l=none):lexG src pos l=.inr pos:=by
 unfold lexG
 rw [dif_pos hp]
 split
 ·rfl
 rename_i h'
 rw [h] at h';cases h'
theorem lexG_some {src:ByteArray} {pos:Nat} {l:List Tok} (hp:pos<src.size) {p':Nat} {l':List Tok} (h:stepL src pos l=some (p',l')):lexG src pos l=lexG src p' l':=by
 conv=>lhs;unfold lexG
 rw [dif_pos hp]
 split
 ·rename_i h'
  rw [h] at h';cases h'
 rename_i h'
 rw [h] at h';cases h';rfl
theorem numO_step (src:ByteArray) (pos:Nat) (l:List Tok) (hq:cls (byteAt src pos)=3):numO src pos (numE src pos) l=match stepL src pos l with
  |none=>.pan (placeP pos) 2 [scB src pos,toksB l 1]
  |some (p',l')=>.ret (.tup []) 3 [scB src p' 2,toksB l' 2]:=by
 simp only [numO,stepL,hq]
 by_cases hb:1<numE src pos - pos∧byteAt src pos=48
 ·simp [hb]
 rw [if_neg hb]
 cases hz:numF src (numE src pos) pos 0 with
 |none=>simp [hb]
 |some n=>simp [hb]
theorem cls_cases (c:Nat):cls c=0∨cls c=1∨cls c=2∨cls c=3∨cls c=4:=by
 unfold cls
 repeat' split
 all_goals simp
abbrev scB3 (src:ByteArray) (pos:Int) (b:Nat):Nat×Blk:=(3,.cells 112 (scn src pos (.buf b)))
theorem lex_fn (src:ByteArray) (hs:src.size≤65536):FnS Tryz.prog 19 0 [.v (.string src)] [] (fun _:Unit=>True) (fun _=>lexO src):=by
 obtain ⟨o,ho⟩:∃o,o=lexO src:=⟨_,rfl⟩
 rw [←ho]
 unfold lexO lexA at ho
 refine FnS.of Tryz.func19 (by kernel_rfl) rfl Tryz.ntmps19 rfl fun E0 F h w0 cs=>?_
 conv=>whnf
 refine gS ?_;conv=>whnf
 repeat ((first|refine oM ?_|refine oL ?_|refine oR ?_);(try intro _);conv=>whnf)
 refine RunsS.deferU ?_
 (try refine gS ?_);conv=>whnf
 refine RunsS.callV (fun Ez Hz Az Sz K=>classes_fn) ?_
 conv=>whnf
 (try refine gS ?_);conv=>whnf
 refine RunsS.subR (nx':=4) (l':=[(5,.ptr 3 0),(4,.ptr 2 0),(3,.ptr 1 0),(2,.ptr 0 0),(0,.v (.string src))]) (H':=[(3,.cells 112 (scn src 0 (.v (.slice none 0 0)))),(2,.cells 33 [.v (.int .i64 0)]),(1,.cells 3 [.v (.int .i64 0)]),(0,.cells 42 [.v (.slice none 0 0)])]) [] ?_ sH sH
 refine RunsS.nilOwn (l':=[(5,.ptr 3 0),(4,.ptr 2 0),(3,.ptr 1 0),(2,.ptr 0 0),(0,.v (.string src))]) (H':=[(3,.cells 112 (scn src 0 (.buf 4))),(2,.cells 33 [.v (.int .i64 0)]),(1,.cells 3 [.v (.int .i64 0)]),(0,.cells 42 [.v (.slice none 0 0)])]) 47 4 ?_ (by rfl) (by rfl) (by rfl)
 refine RunsS.subR [] (RunsS.loop (fun (⟨pos,l⟩:Nat×List Tok)=>[(5,.ptr 3 0),(4,.ptr 2 0),(3,.ptr 1 0),(2,.ptr 0 0),(0,.v (.string src))]) (fun (⟨pos,l⟩:Nat×List Tok)=>[scB3 src pos 4,toksB l 4,(2,.cells 33 [.v (.int .i64 0)]),(1,.cells 3 [.v (.int .i64 0)]),(0,.cells 42 [.v (.slice none 0 0)])]) 5 (fun (⟨pos,l⟩:Nat×List Tok)=>(pos≤src.size∧l.length≤pos)∧lexG src 0 []=lexG src pos l) (fun (⟨pos,l⟩:Nat×List Tok)=>src.size - pos) ?round1 ((0,[])) ?J01) sH sH
 case J01=>exact (⟨by exact ⟨Nat.zero_le _,Nat.zero_le _⟩,rfl⟩)
 rintro ⟨pos,l⟩ hJ back
 try dsimp only at hJ back
 conv=>whnf
 try dsimp only
 refine gS ?_;conv=>whnf
 refine ⟨fun hk=>?_,fun hk=>?_⟩<;>conv=>whnf
 ·obtain ⟨c,hc⟩:∃c,c=byteAt src ((pos:Int)).toNat:=⟨_,rfl⟩
  have hb:c<256:=by rw [hc];exact byteAt_lt src pos
  conv=>whnf
  refine RunsS.held tab (.fl 0 (.fl 1 (.fl 2 (.fl 3 (.fl 4 (.fl 5 (.fl 6 (.fl 7 (.fl 8 (.fl 9 (.fl 10 (.fl 11 (.fl 12 (.fl 13 (.fl 14 (.fl 15 (.fl 16 (.e1 17 [] .done)))))))))))))))))) (by kernel_rfl) ?_;conv=>whnf
  (try refine gR ?_);conv=>whnf
  repeat ((first|refine oM ?_|refine oL ?_|refine oR ?_|refine oB ?_);(try intro _);conv=>whnf)
  conv=>whnf
  rw [←hc]
  conv=>whnf
  have hcc:c=byteAt src pos:=hc
  rw [ldR_at (scn_cls hb) (by rfl) (by rfl) (by rfl)]
  have hP:pos<src.size:=by omega
  rcases cls_cases c with hq|hq|hq|hq|hq<;>rw [hq]
  ·have hs0:stepL src pos l=none:=by simp only [stepL,←hcc,hq,if_true]
   rw [hJ.2,lexG_none hP hs0] at ho
   subst ho
   conv=>whnf
   repeat ((first|refine oM ?_|refine oL ?_|refine oR ?_|refine oB ?_);(try intro _);conv=>whnf)
   conv=>whnf
   refine EffR.callN (wrong_fn src pos) [3,4] ?_ sH ?CNa2
   case CNa2=>rfl
   intro _ _
   conv=>whnf
   refine UnwS.deferN (lexDP_fn _ _ _ pos) [0,1,2] ?_ ⟨by rfl,by rfl,by rfl,trivial⟩ rfl (fun e=>by cases e)
   intro _ _
   (conv=>whnf)
   refine UnwS.ret tab Tryz.func19 rfl (EndS.mk () trivial [] (by exact trivial) rfl rfl (okRet rfl rfl))
  ·have hs0:stepL src pos l=some (pos+1,l):=by simp [stepL,←hcc,hq]
   conv=>whnf
   repeat ((first|refine oM ?_|refine oL ?_|refine oR ?_|refine oB ?_);(try intro _);conv=>whnf)
   conv=>whnf
   refine EffR.callN (pass_fn src pos ⟨by omega,by omega⟩) [3,4] ?_ sH ?CNa3
   case CNa3=>rfl
   intro _ _
   conv=>whnf
   try refine oB ?_
   (try refine gR ?_);conv=>whnf
   (try refine gS ?_);conv=>whnf
   refine RunsS.subR [] (back ((pos+1,l)) (by exact (⟨by dsimp only;omega,hJ.2.trans (lexG_some hP hs0)⟩)) (by (try dsimp only);omega)) sH sH
  ·by_cases hbad:32<nameE src pos - pos
   ·have C:=name_fn src hs pos (by omega) l (by omega)
    simp only [endO,if_pos hbad] at C
    have hs0:stepL src pos l=none:=by simp [stepL,←hcc,hq,hbad]
    rw [hJ.2,lexG_none hP hs0] at ho
    subst ho
    conv=>whnf
    repeat ((first|refine oM ?_|refine oL ?_|refine oR ?_|refine oB ?_);(try intro _);conv=>whnf)
    conv=>whnf
    refine EffR.callN (C) [3,4] ?_ sH ?CNa5
    case CNa5=>rfl
    intro _ _
    conv=>whnf
    refine UnwS.deferN (lexDP_fn _ _ _ pos) [0,1,2] ?_ ⟨by rfl,by rfl,by rfl,trivial⟩ rfl (fun e=>by cases e)
    intro _ _
    (conv=>whnf)
    refine UnwS.ret tab Tryz.func19 rfl (EndS.mk () trivial [] (by exact trivial) rfl rfl (okRet rfl rfl))
   have C:=name_fn src hs pos (by omega) l (by omega)
   simp only [endO,if_neg hbad] at C
   have hs0:stepL src pos l=some (nameE src pos,l++[⟨1,pos,src.extract pos (nameE src pos),0⟩]):=by simp [stepL,←hcc,hq,hbad]
   have hok:=stepL_ok hP hs0
   conv=>whnf
   repeat ((first|refine oM ?_|refine oL ?_|refine oR ?_|refine oB ?_);(try intro _);conv=>whnf)
   conv=>whnf
   refine EffR.callN (C) [3,4] ?_ sH ?CNa6
   case CNa6=>rfl
   intro _ _
   conv=>whnf
   try refine oB ?_
   (try refine gR ?_);conv=>whnf
   (try refine gS ?_);conv=>whnf
   refine RunsS.subR [(4,5)] (back ((nameE src pos,l++[⟨1,pos,src.extract pos (nameE src pos),0⟩])) (by exact (⟨by dsimp only;omega,hJ.2.trans (lexG_some hP hs0)⟩)) (by (try dsimp only);omega)) sH sH
  ·have hd:pos<numE src pos:=runE_gt hP (by rw [←hcc];simp [inRun,hq])
   cases hs0:stepL src pos l with
   |none=>
    have C:=number_fn src hs pos (by omega) hd l (by omega)
    have hO:numO src pos (numE src pos) l=.pan (placeP pos) 2 [scB src pos,toksB l 1]:=by
     have:=numO_step src pos l (by rw [←hcc];exact hq)
     rw [hs0] at this
     exact this
    simp only [hO] at C
    rw [hJ.2,lexG_none hP hs0] at ho
    subst ho
    conv=>whnf
    repeat ((first|refine oM ?_|refine oL ?_|refine oR ?_|refine oB ?_);(try intro _);conv=>whnf)
    conv=>whnf
    refine EffR.callN (C) [3,4] ?_ sH ?CNa8
    case CNa8=>rfl
    intro _ _
    conv=>whnf
    refine UnwS.deferN (lexDP_fn _ _ _ pos) [0,1,2] ?_ ⟨by rfl,by rfl,by rfl,trivial⟩ rfl (fun e=>by cases e)
    intro _ _
    (conv=>whnf)
    refine UnwS.ret tab Tryz.func19 rfl (EndS.mk () trivial [] (by exact trivial) rfl rfl (okRet rfl rfl))
   |some q=>
    obtain ⟨p',l'⟩:=q
    have hok:=stepL_ok hP hs0
    have C:=number_fn src hs pos (by omega) hd l (by omega)
    have hO:numO src pos (numE src pos) l=.ret (.tup []) 3 [scB src p' 2,toksB l' 2]:=by
     have:=numO_step src pos l (by rw [←hcc];exact hq)
     rw [hs0] at this
     exact this
    simp only [hO] at C
    conv=>whnf
    repeat ((first|refine oM ?_|refine oL ?_|refine oR ?_|refine oB ?_);(try intro _);conv=>whnf)
    conv=>whnf
    refine EffR.callN (C) [3,4] ?_ sH ?CNa9
    case CNa9=>rfl
    intro _ _
    conv=>whnf
    try refine oB ?_
    (try refine gR ?_);conv=>whnf
    (try refine gS ?_);conv=>whnf
    refine RunsS.subR [(4,5)] (back ((p',l')) (by exact (⟨by dsimp only;omega,hJ.2.trans (lexG_some hP hs0)⟩)) (by (try dsimp only);omega)) sH sH
  have C:=sign_fn src hs pos hP l (by omega)
  by_cases hcm:comm src pos
  ·simp only [signO,if_pos hcm] at C
   have hs0:stepL src pos l=some (runE src notLf pos,l):=by simp only [stepL,←hcc,hq,if_pos hcm];rfl
   have hok:=stepL_ok hP hs0
   conv=>whnf
   repeat ((first|refine oM ?_|refine oL ?_|refine oR ?_|refine oB ?_);(try intro _);conv=>whnf)
   conv=>whnf
   refine EffR.callN (C) [3,4] ?_ sH ?CNa11
   case CNa11=>rfl
   intro _ _
   conv=>whnf
   try refine oB ?_
   (try refine gR ?_);conv=>whnf
   (try refine gS ?_);conv=>whnf
   refine RunsS.subR [] (back ((runE src notLf pos,l)) (by exact (⟨by dsimp only;omega,hJ.2.trans (lexG_some hP hs0)⟩)) (by (try dsimp only);omega)) sH sH
  simp only [signO,if_neg hcm] at C
  have hs0:stepL src pos l=some (pos+1,l++[⟨3,pos,src.extract pos (pos+1),0⟩]):=by simp only [stepL,←hcc,hq,if_neg hcm];rfl
  have hok:=stepL_ok hP hs0
  conv=>whnf
  repeat ((first|refine oM ?_|refine oL ?_|refine oR ?_|refine oB ?_);(try intro _);conv=>whnf)
  conv=>whnf
  refine EffR.callN (C) [3,4] ?_ sH ?CNa13
  case CNa13=>rfl
  intro _ _
  conv=>whnf
  try refine oB ?_
  (try refine gR ?_);conv=>whnf
  (try refine gS ?_);conv=>whnf
  refine RunsS.subR [(4,5)] (back ((pos+1,l++[⟨3,pos,src.extract pos (pos+1),0⟩])) (by exact (⟨by dsimp only;omega,hJ.2.trans (lexG_some hP hs0)⟩)) (by (try dsimp only);omega)) sH sH
 conv=>whnf
 have hend:lexG src pos l=.inl l:=by
  unfold lexG
  rw [dif_neg (by omega)]
 rw [hJ.2,hend] at ho
 subst ho
 refine RunsS.retU ?_
 refine UnwS.deferN lexDN_fn [0,1,2] ?_ trivial rfl (fun e=>by cases e)
 intro _ _
 conv=>whnf
 refine UnwS.ret tab Tryz.func19 rfl (EndS.mk () trivial [(0,4)] (by exact ⟨by rfl,trivial⟩) rfl rfl (okRet rfl rfl))

theorem cls2 (c:Nat):cls c=2↔(97≤c∧c≤122)∨(65≤c∧c≤90):=by
 unfold cls;repeat' split
 all_goals omega
theorem cls3 (c:Nat):cls c=3↔(48≤c∧c≤57):=by
 unfold cls;repeat' split
 all_goals omega
theorem cls1 (c:Nat):cls c=1↔(c=32∨c=9∨c=10∨c=13):=by
 unfold cls;repeat' split
 all_goals omega
theorem cls4 (c:Nat):cls c=4↔c ∈ [123,125,40,41,44,59,61,35,47,60,33,45,46,58,43]:=by
 unfold cls
 simp only [List.mem_cons,List.not_mem_nil,or_false]
 repeat' split
 all_goals omega
theorem nmC_iff (c:Nat):nmC c=true↔(cls c=2∨cls c=3∨c=95):=by
 simp only [nmC,inRun,Bool.or_eq_true,decide_eq_true_eq]
 omega
theorem dgC_iff (c:Nat):dgC c=true↔cls c=3:=by
 simp only [dgC,inRun,Bool.or_eq_true,decide_eq_true_eq,cls3]
 omega
theorem rLetter_fn {h:Array Obj} (c:Nat):FnV Tryz.prog 83 #[.int .u8 c] h fun r h'=>r=.bool (decide (cls c=2))∧Keeps h.size h h':=by
 refine Fn.ofS (args:=[.int .u8 c]) Tryz.func83 (by kernel_rfl) rfl Tryz.ntmps83 rfl fun w0 cs=>?_
 conv=>whnf
 refine gS ?_;conv=>whnf
 repeat' (refine And.intro (fun hs=>?_) (fun hs=>?_)<;>(conv=>whnf))
 all_goals (
  refine RunsS.retU (UnwS.ret tab Tryz.func83 rfl fun Ez Hz Az Sz K=>⟨_,rfl,?_,K.keeps⟩)
  first|exact congrArg Value.bool (decide_eq_true ((cls2 c).2 (by omega))).symm|exact congrArg Value.bool (decide_eq_false (fun e=>by have:=(cls2 c).1 e;omega)).symm|exact congrArg Value.bool (decide_eq_decide.2 ((cls2 c).trans (by omega)).symm))
theorem rFigure_fn {h:Array Obj} (c:Nat):FnV Tryz.prog 86 #[.int .u8 c] h fun r h'=>r=.bool (decide (cls c=3))∧Keeps h.size h h':=by
 refine Fn.ofS (args:=[.int .u8 c]) Tryz.func86 (by kernel_rfl) rfl Tryz.ntmps86 rfl fun w0 cs=>?_
 conv=>whnf
 refine gS ?_;conv=>whnf
 repeat' (refine And.intro (fun hs=>?_) (fun hs=>?_)<;>(conv=>whnf))
 all_goals (
  refine RunsS.retU (UnwS.ret tab Tryz.func86 rfl fun Ez Hz Az Sz K=>⟨_,rfl,?_,K.keeps⟩)
  first|exact congrArg Value.bool (decide_eq_true ((cls3 c).2 (by omega))).symm|exact congrArg Value.bool (decide_eq_false (fun e=>by have:=(cls3 c).1 e;omega)).symm|exact congrArg Value.bool (decide_eq_decide.2 ((cls3 c).trans (by omega)).symm))
theorem rSpace_fn {h:Array Obj} (c:Nat):FnV Tryz.prog 82 #[.int .u8 c] h fun r h'=>r=.bool (decide (cls c=1))∧Keeps h.size h h':=by
 refine Fn.ofS (args:=[.int .u8 c]) Tryz.func82 (by kernel_rfl) rfl Tryz.ntmps82 rfl fun w0 cs=>?_
 conv=>whnf
 refine gS ?_;conv=>whnf
 repeat' (refine And.intro (fun hs=>?_) (fun hs=>?_)<;>(conv=>whnf))
 all_goals (
  refine RunsS.retU (UnwS.ret tab Tryz.func82 rfl fun Ez Hz Az Sz K=>⟨_,rfl,?_,K.keeps⟩)
  first|exact congrArg Value.bool (decide_eq_true ((cls1 c).2 (by omega))).symm|exact congrArg Value.bool (decide_eq_false (fun e=>by have:=(cls1 c).1 e;omega)).symm|exact congrArg Value.bool (decide_eq_decide.2 ((cls1 c).trans (by omega)).symm))
theorem rPart_fn {h:Array Obj} (c:Nat):FnV Tryz.prog 84 #[.int .u8 c] h fun r h'=>r=.bool (nmC c)∧Keeps h.size h h':=by
 refine Fn.ofS (args:=[.int .u8 c]) Tryz.func84 (by kernel_rfl) rfl Tryz.ntmps84 rfl fun w0 cs=>?_
 conv=>whnf
 refine gS ?_;conv=>whnf
 by_cases h2:cls c=2
 ·refine RunsS.callV (fun Ez Hz Az Sz K=>rLetter_fn c) ?_
  conv=>whnf
  rw [decide_eq_true h2]
  try dsimp only
  (try refine gS ?_);conv=>whnf
  refine RunsS.retU (UnwS.ret tab Tryz.func84 rfl fun Ez Hz Az Sz K=>⟨_,rfl,?_,K.keeps⟩)
  exact congrArg Value.bool ((nmC_iff c).2 (.inl h2)).symm
 refine RunsS.callV (fun Ez Hz Az Sz K=>rLetter_fn c) ?_
 conv=>whnf
 rw [decide_eq_false h2]
 try dsimp only
 (try refine gS ?_);conv=>whnf
 by_cases h3:cls c=3
 ·refine RunsS.callV (fun Ez Hz Az Sz K=>rFigure_fn c) ?_
  conv=>whnf
  rw [decide_eq_true h3]
  (try refine gS ?_);conv=>whnf
  refine RunsS.retU (UnwS.ret tab Tryz.func84 rfl fun Ez Hz Az Sz K=>⟨_,rfl,?_,K.keeps⟩)
  exact congrArg Value.bool ((nmC_iff c).2 (.inr (.inl h3))).symm
 refine RunsS.callV (fun Ez Hz Az Sz K=>rFigure_fn c) ?_
 conv=>whnf
 rw [decide_eq_false h3]
 (try refine gS ?_);conv=>whnf
 refine RunsS.retU (UnwS.ret tab Tryz.func84 rfl fun Ez Hz Az Sz K=>⟨_,rfl,?_,K.keeps⟩)
 refine congrArg Value.bool ?_
 cases hn:nmC c with
 |true=>
  have:=(nmC_iff c).1 hn
  exact decide_eq_true (by omega)
 |false=>
  exact decide_eq_false (fun e=>by
   have:=(nmC_iff c).2 (.inr (.inr (by omega)))
   rw [hn] at this;cases this)
abbrev signB:ByteArray:=⟨#[123,125,40,41,59,44,61,35,47,60,33,45,46,58,43]⟩
theorem sign_get:(∀j,j<15→cls (byteAt signB j)=4)∧(∀c,c ∈ [123,125,40,41,44,59,61,35,47,60,33,45,46,58,43] → ∃j,j<15∧byteAt signB j=c):=by decide
theorem rSign_fn {h:Array Obj} (c:Nat):FnV Tryz.prog 88 #[.int .u8 c] h fun r h'=>r=.bool (decide (cls c=4))∧Keeps h.size h h':=by
 refine Fn.ofS (args:=[.int .u8 c]) Tryz.func88 (by kernel_rfl) rfl Tryz.ntmps88 rfl fun w0 cs=>?_
 conv=>whnf
 refine gS ?_;conv=>whnf
 refine RunsS.subR [] (RunsS.loop (fun (i:Nat)=>[(4,.v (.int .i64 i)),(3,.v (.string signB)),(0,.v (.int .u8 c))]) (fun (i:Nat)=>[]) 0 (fun (i:Nat)=>i≤15 ∧ ∀j,j<i→byteAt signB j≠c) (fun (i:Nat)=>15 - i) ?round1 (0) ?J01) sH sH
 case J01=>exact (⟨Nat.zero_le _,fun _ h=>absurd h (Nat.not_lt_zero _)⟩)
 rintro i hJ back
 try dsimp only at hJ back
 conv=>whnf
 try dsimp only
 refine gS ?_;conv=>whnf
 refine ⟨fun hk=>?_,fun hk=>?_⟩<;>conv=>whnf
 ·conv=>whnf
  repeat ((first|refine oM ?_|refine oL ?_|refine oR ?_);(try intro _);conv=>whnf)
  have hi:i<15:=by
   have:signB.size=15:=rfl
   omega
  refine ⟨fun hx=>?_,fun hx=>?_⟩<;>conv=>whnf
  ·conv=>whnf
   refine RunsS.retU (UnwS.ret tab Tryz.func88 rfl fun Ez Hz Az Sz K=>⟨_,rfl,?_,K.keeps⟩)
   have hx':byteAt signB i=c:=by exact_mod_cast hx
   exact congrArg Value.bool (decide_eq_true (hx'▸sign_get.1 i hi)).symm
  conv=>whnf
  repeat ((first|refine oM ?_|refine oL ?_|refine oR ?_);(try intro _);conv=>whnf)
  have hx':byteAt signB i≠c:=fun e=>hx (by exact_mod_cast e)
  refine RunsS.subR [] (back (i+1) (by exact (⟨hi,fun j hj=>(Nat.lt_succ_iff_lt_or_eq.1 hj).elim (hJ.2 j) (fun e=>e▸hx')⟩)) (by (try dsimp only);omega)) sH sH
 conv=>whnf
 refine RunsS.retU (UnwS.ret tab Tryz.func88 rfl fun Ez Hz Az Sz K=>⟨_,rfl,?_,K.keeps⟩)
 have hi:i=15:=by
  have:signB.size=15:=rfl
  omega
 refine congrArg Value.bool (decide_eq_false fun e=>?_).symm
 obtain ⟨j,h1,h2⟩:=sign_get.2 c ((cls4 c).1 e)
 exact hJ.2 j (by omega) h2
abbrev NameP (s:ByteArray):Prop:=(1≤s.size∧s.size≤32)∧cls (byteAt s 0)=2 ∧ ∀i,i<s.size→nmC (byteAt s i)=true
theorem rName_fn {h:Array Obj} (s:ByteArray):FnV Tryz.prog 85 #[.string s] h fun r h'=>r=.bool (decide (NameP s))∧Keeps h.size h h':=by
 refine Fn.ofS (args:=[.string s]) Tryz.func85 (by kernel_rfl) rfl Tryz.ntmps85 rfl fun w0 cs=>?_
 conv=>whnf
 refine gS ?_;conv=>whnf
 refine ⟨fun h1=>?_,fun h1=>?_⟩<;>conv=>whnf
 ·conv=>whnf
  refine RunsS.retU (UnwS.ret tab Tryz.func85 rfl fun Ez Hz Az Sz K=>⟨_,rfl,?_,K.keeps⟩)
  exact congrArg Value.bool (decide_eq_false fun e=>by have:=e.1;omega).symm
 conv=>whnf
 refine ⟨fun h2=>?_,fun h2=>?_⟩<;>conv=>whnf
 ·conv=>whnf
  refine RunsS.retU (UnwS.ret tab Tryz.func85 rfl fun Ez Hz Az Sz K=>⟨_,rfl,?_,K.keeps⟩)
  exact congrArg Value.bool (decide_eq_false fun e=>by have:=e.1;omega).symm
 conv=>whnf
 repeat ((first|refine oM ?_|refine oL ?_|refine oR ?_);(try intro _);conv=>whnf)
 by_cases h3:cls (byteAt s 0)=2
 ·refine RunsS.callV (fun Ez Hz Az Sz K=>rLetter_fn (byteAt s 0)) ?_
  conv=>whnf
  rw [decide_eq_true h3]
  try dsimp only
  (try refine gS ?_);conv=>whnf
  refine RunsS.subR [] (RunsS.loop (fun (i:Nat)=>[(3,.v (.int .i64 i)),(0,.v (.string s))]) (fun (i:Nat)=>[]) 0 (fun (i:Nat)=>i≤s.size ∧ ∀j,j<i→nmC (byteAt s j)=true) (fun (i:Nat)=>s.size - i) ?round3 (0) ?J03) sH sH
  case J03=>exact (⟨Nat.zero_le _,fun _ h=>absurd h (Nat.not_lt_zero _)⟩)
  rintro i hJ back
  conv=>whnf
  refine gS ?_;conv=>whnf
  refine ⟨fun hk=>?_,fun hk=>?_⟩<;>conv=>whnf
  ·conv=>whnf
   repeat ((first|refine oM ?_|refine oL ?_|refine oR ?_);(try intro _);conv=>whnf)
   by_cases h4:nmC (byteAt s i)=true
   ·refine RunsS.callV (fun Ez Hz Az Sz K=>rPart_fn (byteAt s i)) ?_
    conv=>whnf
    rw [h4]
    (try refine gS ?_);conv=>whnf
    repeat ((first|refine oM ?_|refine oL ?_|refine oR ?_);(try intro _);conv=>whnf)
    refine RunsS.subR [] (back (i+1) (by exact (⟨by omega,fun j hj=>(Nat.lt_succ_iff_lt_or_eq.1 hj).elim (hJ.2 j) (fun e=>e▸h4)⟩)) (by (try dsimp only);omega)) sH sH
   refine RunsS.callV (fun Ez Hz Az Sz K=>rPart_fn (byteAt s i)) ?_
   conv=>whnf
   rw [Bool.eq_false_iff.2 h4]
   (try refine gS ?_);conv=>whnf
   refine RunsS.retU (UnwS.ret tab Tryz.func85 rfl fun Ez Hz Az Sz K=>⟨_,rfl,?_,K.keeps⟩)
   exact congrArg Value.bool (decide_eq_false fun e=>h4 (e.2.2 i (by omega))).symm
  conv=>whnf
  refine RunsS.retU (UnwS.ret tab Tryz.func85 rfl fun Ez Hz Az Sz K=>⟨_,rfl,?_,K.keeps⟩)
  exact congrArg Value.bool (decide_eq_true (⟨by omega,h3,fun j hj=>hJ.2 j (by omega)⟩:NameP s)).symm
 refine RunsS.callV (fun Ez Hz Az Sz K=>rLetter_fn (byteAt s 0)) ?_
 conv=>whnf
 rw [decide_eq_false h3]
 try dsimp only
 (try refine gS ?_);conv=>whnf
 refine RunsS.retU (UnwS.ret tab Tryz.func85 rfl fun Ez Hz Az Sz K=>⟨_,rfl,?_,K.keeps⟩)
 exact congrArg Value.bool (decide_eq_false fun e=>h3 e.2.1).symm
theorem rNumber_fn {h:Array Obj} (s:ByteArray) (hs:0<s.size∧s.size≤65536) (hd:∀i,i<s.size→48≤byteAt s i∧byteAt s i≤57):FnV Tryz.prog 87 #[.string s] h fun r h'=>r=(match numL (bs s) 0 with|none=>.tuple #[.int .i64 0,.bool false]|some n=>.tuple #[.int .i64 n,.bool (decide (s.size=1∨byteAt s 0≠48))])∧Keeps h.size h h':=by
 refine Fn.ofS (args:=[.string s]) Tryz.func87 (by kernel_rfl) rfl Tryz.ntmps87 rfl fun w0 cs=>?_
 conv=>whnf
 refine gS ?_;conv=>whnf
 refine RunsS.subR [] (RunsS.loop (fun (⟨i,a⟩:Nat×Nat)=>[(5,.v (.int .i64 i)),(4,.v (.int .i64 a)),(0,.v (.string s))]) (fun (⟨i,a⟩:Nat×Nat)=>[]) 0 (fun (⟨i,a⟩:Nat×Nat)=>(i≤s.size∧a≤1099511627776)∧numL (bs s) 0=numL ((bs s).drop i) a) (fun (⟨i,a⟩:Nat×Nat)=>s.size - i) ?round5 ((0,0)) ?J05) sH sH
 case J05=>exact (⟨⟨Nat.zero_le _,Nat.zero_le _⟩,rfl⟩)
 rintro ⟨i,a⟩ hJ back
 try dsimp only at hJ back
 conv=>whnf
 try dsimp only
 refine gS ?_;conv=>whnf
 refine ⟨fun hk=>?_,fun hk=>?_⟩<;>conv=>whnf
 ·obtain ⟨c,e1,e2⟩:=bs_drop (s:=s) (i:=i) (by omega)
  have hdi:=hd i (by omega)
  have hm:10*(a:Int)+(((byteAt s i:Nat):Int) - 48)%256=((10*a+(byteAt s i - 48):Nat):Int):=by omega
  obtain ⟨x,hx⟩:∃x,x=byteAt s ((i:Int)).toNat:=⟨_,rfl⟩
  have hx':byteAt s i=x:=hx.symm
  rw [hx'] at hm hdi
  rw [hx'] at e2
  conv=>whnf
  repeat ((first|refine oM ?_|refine oL ?_|refine oR ?_);(try intro _);conv=>whnf)
  rw [←hx]
  conv=>whnf
  rw [hm]
  refine ⟨fun hg=>?_,fun hg=>?_⟩<;>conv=>whnf
  ·conv=>whnf
   have hn:numL (bs s) 0=none:=by
    rw [hJ.2,e1]
    simp only [numL,e2]
    rw [if_neg (by omega)]
   rw [hn]
   refine RunsS.retU (UnwS.ret tab Tryz.func87 rfl fun _ _ _ _ K=>⟨_,rfl,rfl,K.keeps⟩)
  conv=>whnf
  repeat ((first|refine oM ?_|refine oL ?_|refine oR ?_);(try intro _);conv=>whnf)
  refine RunsS.subR [] (back ((i+1,10*a+(x - 48))) (by exact (⟨by dsimp only;omega,by rw [hJ.2,e1];simp only [numL,e2];rw [if_pos (by omega)]⟩)) (by (try dsimp only);omega)) sH sH
 conv=>whnf
 have hn:numL (bs s) 0=some a:=by
  rw [hJ.2,List.drop_eq_nil_of_le (by rw [bs_len];omega)];rfl
 rw [hn]
 refine RunsS.held tab (.fl 0 (.fl 1 (.fl 2 (.fl 3 (.fl 4 (.fl 5 (.fl 6 (.fl 7 (.fl 8 (.fl 9 (.fl 10 .done))))))))))) (by kernel_rfl) ?_;conv=>whnf
 (try refine gR ?_);conv=>whnf
 conv=>whnf
 refine ⟨fun h1=>?_,fun h1=>?_⟩<;>conv=>whnf
 ·try refine gR ?_
  conv=>whnf
  (try refine gS ?_);conv=>whnf
  refine RunsS.retU (UnwS.ret tab Tryz.func87 rfl fun Ez Hz Az Sz K=>⟨_,rfl,?_,K.keeps⟩)
  simp [show s.size=1 by omega]
  rfl
 (try refine gR ?_);conv=>whnf
 repeat ((first|refine oM ?_|refine oL ?_|refine oR ?_|refine oB ?_);(try intro _);conv=>whnf)
 (try refine gS ?_);conv=>whnf
 refine RunsS.retU (UnwS.ret tab Tryz.func87 rfl fun Ez Hz Az Sz K=>⟨_,rfl,?_,K.keeps⟩)
 have h1':s.size≠1:=by omega
 have:((byteAt s 0:Nat):Int)=48↔byteAt s 0=48:=by omega
 simp [h1',this]
 rfl

theorem byteAt_ex (s:ByteArray) {lo hi i:Nat} (hh:hi≤s.size) (h:lo+i<hi):byteAt (s.extract lo hi) i=byteAt s (lo+i):=by
 unfold byteAt
 have e:(s.extract lo hi).data.toList=((bs s).take hi).drop lo:=bs_extract s lo hi
 rw [e]
 simp only [List.getD_eq_getElem?_getD,List.getElem?_drop,List.getElem?_take,if_pos h]
theorem size_ex (s:ByteArray) {lo hi:Nat} (hh:hi≤s.size):(s.extract lo hi).size=hi - lo:=by
 rw [←bs_len,bs_extract]
 simp [bs_len,Nat.min_eq_left hh]
theorem comm_iff (src:ByteArray) (pos:Nat) (hp:pos<src.size):comm src pos↔(byteAt src pos=47∧pos+1<src.size∧byteAt src (pos+1)=47):=by
 unfold comm
 rw [size_ex src (Nat.le_refl _)]
 have hz:(⟨#[47,47]⟩:ByteArray).size=2:=rfl
 rw [hz]
 constructor
 ·rintro ⟨h1,h2⟩
  have b0:=congrArg (byteAt · 0) h2
  have b1:=congrArg (byteAt · 1) h2
  rw [byteAt_ex _ (by rw [size_ex src (Nat.le_refl _)];exact h1) (by omega),byteAt_ex _ (Nat.le_refl _) (by omega)] at b0 b1
  exact ⟨b0,by omega,b1⟩
 rintro ⟨h1,h2,h3⟩
 refine ⟨by omega,?_⟩
 rw [←toArray_ext (ByteArray.extract _ _ _),bs_extract,bs_extract]
 obtain ⟨c,e1,e2⟩:=bs_drop hp
 obtain ⟨d,e3,e4⟩:=bs_drop h2
 have ht:List.take src.size (bs src)=bs src:=List.take_of_length_le (by rw [bs_len];exact Nat.le_refl _)
 rw [ht,e1,e3]
 have hc:c=47:=UInt8.toNat_inj.1 (by rw [e2,h1];rfl)
 have hd:d=47:=UInt8.toNat_inj.1 (by rw [e4,h3];rfl)
 rw [hc,hd]
 rfl
theorem app_row (l:List Tok) (a b:Int) (t:ByteArray) (n:Int):l.map Tok.row++chunk 4 1 [Value.int .i64 a,.int .i64 b,.string t,.int .i64 n]=(l++[(⟨a,b,t,n⟩:Tok)]).map Tok.row:=by rw [List.map_append];rfl
theorem rlex_fn (src:ByteArray) (hs:src.size≤65536):FnS Tryz.prog 25 0 [.v (.string src)] [] (fun _:Unit=>True) (fun _=>lexO src):=by
 obtain ⟨o,ho⟩:∃o,o=lexO src:=⟨_,rfl⟩
 rw [←ho]
 unfold lexO lexA at ho
 refine FnS.of Tryz.func25 (by kernel_rfl) rfl Tryz.ntmps25 rfl fun E0 F h w0 cs=>?_
 conv=>whnf
 refine gS ?_;conv=>whnf
 repeat ((first|refine oM ?_|refine oL ?_|refine oR ?_);(try intro _);conv=>whnf)
 refine RunsS.subR [] (RunsS.loop (fun (⟨pos,l⟩:Nat×List Tok)=>[(6,.v (.int .i64 pos)),(5,.buf 0),(0,.v (.string src))]) (fun (⟨pos,l⟩:Nat×List Tok)=>[toksB l 0]) 1 (fun (⟨pos,l⟩:Nat×List Tok)=>(pos≤src.size∧l.length≤pos)∧lexG src 0 []=lexG src pos l) (fun (⟨pos,l⟩:Nat×List Tok)=>src.size - pos) ?round1 ((0,[])) ?J01) sH sH
 case J01=>exact (⟨by exact ⟨Nat.zero_le _,Nat.zero_le _⟩,rfl⟩)
 rintro ⟨pos,l⟩ hJ back
 try dsimp only at hJ back
 conv=>whnf
 try dsimp only
 refine gS ?_;conv=>whnf
 refine ⟨fun hk=>?_,fun hk=>?_⟩<;>conv=>whnf
 ·have hP:pos<src.size:=by omega
  conv=>whnf
  repeat ((first|refine oM ?_|refine oL ?_|refine oR ?_);(try intro _);conv=>whnf)
  by_cases h1:cls (byteAt src pos)=1
  ·refine RunsS.callV (fun Ez Hz Az Sz K=>rSpace_fn (byteAt src pos)) ?_
   conv=>whnf
   rw [decide_eq_true h1]
   (try refine gS ?_);conv=>whnf
   repeat ((first|refine oM ?_|refine oL ?_|refine oR ?_);(try intro _);conv=>whnf)
   have hs0:stepL src pos l=some (pos+1,l):=by simp [stepL,h1]
   refine RunsS.subR [] (back ((pos+1,l)) (by exact (⟨by dsimp only;omega,hJ.2.trans (lexG_some hP hs0)⟩)) (by (try dsimp only);omega)) sH sH
  refine RunsS.callV (fun Ez Hz Az Sz K=>rSpace_fn (byteAt src pos)) ?_
  conv=>whnf
  rw [decide_eq_false h1]
  (try refine gS ?_);conv=>whnf
  repeat ((first|refine oM ?_|refine oL ?_|refine oR ?_);(try intro _);conv=>whnf)
  refine ⟨fun ha=>?_,fun ha=>?_⟩<;>conv=>whnf
  ·have h4:cls (byteAt src pos)=4:=by rw [show byteAt src pos=47 by exact_mod_cast ha];decide
   conv=>whnf
   repeat ((first|refine oM ?_|refine oL ?_|refine oR ?_);(try intro _);conv=>whnf)
   refine ⟨fun hb=>?_,fun hb=>?_⟩<;>conv=>whnf
   ·conv=>whnf
    repeat ((first|refine oM ?_|refine oL ?_|refine oR ?_);(try intro _);conv=>whnf)
    refine ⟨fun hc=>?_,fun hc=>?_⟩<;>conv=>whnf
    ·have hcm:comm src pos:=(comm_iff src pos hP).2 ⟨by exact_mod_cast ha,by omega,by exact_mod_cast hc⟩
     have hs0:stepL src pos l=some (runE src notLf pos,l):=by simp only [stepL,h4,if_pos hcm];rfl
     have hok:=stepL_ok hP hs0
     have back0:=back
     have hJ0:=hJ
     conv=>whnf
     refine RunsS.subR [] (RunsS.loop (fun (i:Nat)=>[(6,.v (.int .i64 i)),(5,.buf 0),(0,.v (.string src))]) (fun (i:Nat)=>[toksB l 0]) 1 (fun (i:Nat)=>(pos≤i∧i≤src.size)∧runE src notLf pos=runE src notLf i) (fun (i:Nat)=>src.size - i) ?round3 (pos) ?J03) sH sH
     case J03=>exact (⟨by omega,rfl⟩)
     rintro i hJ back
     conv=>whnf
     refine gS ?_;conv=>whnf
     refine ⟨fun hi=>?_,fun hi=>?_⟩<;>conv=>whnf
     ·conv=>whnf
      repeat ((first|refine oM ?_|refine oL ?_|refine oR ?_);(try intro _);conv=>whnf)
      refine ⟨fun hx=>?_,fun hx=>?_⟩<;>conv=>whnf
      ·conv=>whnf
       have hx':byteAt src i=10:=by exact_mod_cast hx
       have hn:runE src notLf pos=i:=by
        rw [hJ.2]
        unfold runE
        rw [dif_pos (by omega),hx'];rfl
       have back:=back0
       rw [hn] at hs0 hok
       refine RunsS.subR [] (back ((i,l)) (by exact (⟨by dsimp only;omega,hJ0.2.trans (lexG_some hP hs0)⟩)) (by (try dsimp only);omega)) sH sH
      conv=>whnf
      repeat ((first|refine oM ?_|refine oL ?_|refine oR ?_);(try intro _);conv=>whnf)
      have hx':¬byteAt src i=10:=fun e=>hx (by exact_mod_cast e)
      have hn:runE src notLf pos=runE src notLf (i+1):=by
       rw [hJ.2]
       conv=>lhs;unfold runE
       rw [dif_pos (by omega),if_pos (by simp [notLf,hx'])]
      refine RunsS.subR [] (back (i+1) (by exact (⟨by omega,hn⟩)) (by (try dsimp only);omega)) sH sH
     conv=>whnf
     have hn:runE src notLf pos=i:=by
      rw [hJ.2]
      unfold runE
      rw [dif_neg (by omega)]
     have back:=back0
     rw [hn] at hs0 hok
     refine RunsS.subR [] (back ((i,l)) (by exact (⟨by dsimp only;omega,hJ0.2.trans (lexG_some hP hs0)⟩)) (by (try dsimp only);omega)) sH sH
    have hcm:¬comm src pos:=fun e=>hc (by have:=((comm_iff src pos hP).1 e).2.2;exact_mod_cast this)
    conv=>whnf
    repeat ((first|refine oM ?_|refine oL ?_|refine oR ?_);(try intro _);conv=>whnf)
    have hs0:stepL src pos l=some (pos+1,l++[⟨3,pos,src.extract pos (pos+1),0⟩]):=by simp only [stepL,h4,if_neg hcm];rfl
    have hok:=stepL_ok hP hs0
    refine RunsS.callV (fun Ez Hz Az Sz K=>rLetter_fn (byteAt src pos)) ?_
    conv=>whnf
    rw [decide_eq_false (by omega)]
    (try refine gS ?_);conv=>whnf
    repeat ((first|refine oM ?_|refine oL ?_|refine oR ?_);(try intro _);conv=>whnf)
    refine RunsS.callV (fun Ez Hz Az Sz K=>rFigure_fn (byteAt src pos)) ?_
    conv=>whnf
    rw [decide_eq_false (by omega)]
    (try refine gS ?_);conv=>whnf
    repeat ((first|refine oM ?_|refine oL ?_|refine oR ?_);(try intro _);conv=>whnf)
    refine RunsS.callV (fun Ez Hz Az Sz K=>rSign_fn (byteAt src pos)) ?_
    conv=>whnf
    rw [decide_eq_true h4]
    (try refine gS ?_);conv=>whnf
    repeat ((first|refine oM ?_|refine oL ?_|refine oR ?_);(try intro _);conv=>whnf)
    refine And.intro (appOb (by rw [List.length_map];omega)) ?_;conv=>whnf
    (try refine gS ?_);conv=>whnf
    refine RunsS.rowsEq (2) (app_row l 3 pos (src.extract pos (pos+1)) 0) ?_;conv=>whnf
    refine RunsS.subR [(0,2)] (back ((pos+1,l++[⟨3,pos,src.extract pos (pos+1),0⟩])) (by exact (⟨by dsimp only;omega,hJ.2.trans (lexG_some hP hs0)⟩)) (by (try dsimp only);omega)) sH sH
   have hcm:¬comm src pos:=fun e=>hb (by have:=((comm_iff src pos hP).1 e).2.1;omega)
   conv=>whnf
   repeat ((first|refine oM ?_|refine oL ?_|refine oR ?_);(try intro _);conv=>whnf)
   have hs0:stepL src pos l=some (pos+1,l++[⟨3,pos,src.extract pos (pos+1),0⟩]):=by simp only [stepL,h4,if_neg hcm];rfl
   have hok:=stepL_ok hP hs0
   refine RunsS.callV (fun Ez Hz Az Sz K=>rLetter_fn (byteAt src pos)) ?_
   conv=>whnf
   rw [decide_eq_false (by omega)]
   (try refine gS ?_);conv=>whnf
   repeat ((first|refine oM ?_|refine oL ?_|refine oR ?_);(try intro _);conv=>whnf)
   refine RunsS.callV (fun Ez Hz Az Sz K=>rFigure_fn (byteAt src pos)) ?_
   conv=>whnf
   rw [decide_eq_false (by omega)]
   (try refine gS ?_);conv=>whnf
   repeat ((first|refine oM ?_|refine oL ?_|refine oR ?_);(try intro _);conv=>whnf)
   refine RunsS.callV (fun Ez Hz Az Sz K=>rSign_fn (byteAt src pos)) ?_
   conv=>whnf
   rw [decide_eq_true h4]
   (try refine gS ?_);conv=>whnf
   repeat ((first|refine oM ?_|refine oL ?_|refine oR ?_);(try intro _);conv=>whnf)
   refine And.intro (appOb (by rw [List.length_map];omega)) ?_;conv=>whnf
   (try refine gS ?_);conv=>whnf
   refine RunsS.rowsEq (2) (app_row l 3 pos (src.extract pos (pos+1)) 0) ?_;conv=>whnf
   refine RunsS.subR [(0,2)] (back ((pos+1,l++[⟨3,pos,src.extract pos (pos+1),0⟩])) (by exact (⟨by dsimp only;omega,hJ.2.trans (lexG_some hP hs0)⟩)) (by (try dsimp only);omega)) sH sH
  have ha':byteAt src pos≠47:=fun e=>ha (by exact_mod_cast e)
  have hcm:¬comm src pos:=fun e=>ha' ((comm_iff src pos hP).1 e).1
  conv=>whnf
  repeat ((first|refine oM ?_|refine oL ?_|refine oR ?_);(try intro _);conv=>whnf)
  by_cases h2:cls (byteAt src pos)=2
  ·refine RunsS.callV (fun Ez Hz Az Sz K=>rLetter_fn (byteAt src pos)) ?_
   conv=>whnf
   rw [decide_eq_true h2]
   (try refine gS ?_);conv=>whnf
   refine RunsS.meet (fun (e:Nat)=>[(7,.v (.int .i64 pos)),(6,.v (.int .i64 e)),(5,.buf 0),(0,.v (.string src))]) (fun (e:Nat)=>[toksB l 0]) 1 (fun (e:Nat)=>e=nameE src pos) ?_ (fun meet=>?_)
   ·rintro e he
    have g1:pos<e:=he▸runE_gt hP (by simp [inRun,h2])
    have g2:e≤src.size:=he▸runE_le _ _ _ (by omega)
    have hsz:=size_ex src (lo:=pos) g2
    have hname:NameP (src.extract pos e) ↔ ¬32<e - pos:=by
     constructor
     ·intro h;have:=h.1;omega
     intro h
     refine ⟨by omega,?_,fun i hi=>?_⟩
     ·rw [byteAt_ex src g2 (by omega)];exact h2
     rw [byteAt_ex src g2 (by omega)]
     exact runE_in src (inRun 2 3 95) pos (pos+i) (by omega) (by rw [show runE src (inRun 2 3 95) pos=e from he.symm];omega)
    (try refine gS ?_);conv=>whnf
    repeat ((first|refine oM ?_|refine oL ?_|refine oR ?_);(try intro _);conv=>whnf)
    by_cases hb:32<e - pos
    ·refine RunsS.callV (fun Ez Hz Az Sz K=>rName_fn (src.extract pos e)) ?_
     conv=>whnf
     rw [decide_eq_false (fun h=>hname.1 h hb)]
     (try refine gS ?_);conv=>whnf
     have hs0:stepL src pos l=none:=by simp [stepL,h2,←he,hb]
     rw [hJ.2,lexG_none hP hs0] at ho
     subst ho
     try refine RunsS.retU ?_
     exact UnwS.ret tab Tryz.func25 rfl (eN () trivial)
    refine RunsS.callV (fun Ez Hz Az Sz K=>rName_fn (src.extract pos e)) ?_
    conv=>whnf
    rw [decide_eq_true (hname.2 hb)]
    (try refine gS ?_);conv=>whnf
    repeat ((first|refine oM ?_|refine oL ?_|refine oR ?_);(try intro _);conv=>whnf)
    have hs0:stepL src pos l=some (e,l++[⟨1,pos,src.extract pos e,0⟩]):=by simp [stepL,h2,←he,hb]
    have hok:=stepL_ok hP hs0
    refine And.intro (appOb (by rw [List.length_map];omega)) ?_;conv=>whnf
    (try refine gS ?_);conv=>whnf
    refine RunsS.rowsEq (2) (app_row l 1 pos (src.extract pos e) 0) ?_;conv=>whnf
    refine RunsS.subR [(0,2)] (back ((e,l++[⟨1,pos,src.extract pos e,0⟩])) (by exact (⟨by dsimp only;omega,hJ.2.trans (lexG_some hP hs0)⟩)) (by (try dsimp only);omega)) sH sH
   refine RunsS.subR [] (RunsS.loop (fun (i:Nat)=>[(7,.v (.int .i64 pos)),(6,.v (.int .i64 i)),(5,.buf 0),(0,.v (.string src))]) (fun (i:Nat)=>[toksB l 0]) 1 (fun (i:Nat)=>(pos≤i∧i≤src.size)∧nameE src pos=runE src nmC i) (fun (i:Nat)=>src.size - i) ?round10 (pos) ?J010) sH sH
   case J010=>exact (⟨by omega,rfl⟩)
   rintro i hJ back
   conv=>whnf
   refine gS ?_;conv=>whnf
   refine ⟨fun hi=>?_,fun hi=>?_⟩<;>conv=>whnf
   ·conv=>whnf
    repeat ((first|refine oM ?_|refine oL ?_|refine oR ?_);(try intro _);conv=>whnf)
    by_cases hx:nmC (byteAt src i)=true
    ·refine RunsS.callV (fun Ez Hz Az Sz K=>rPart_fn (byteAt src i)) ?_
     conv=>whnf
     rw [hx]
     (try refine gS ?_);conv=>whnf
     repeat ((first|refine oM ?_|refine oL ?_|refine oR ?_);(try intro _);conv=>whnf)
     have hn:nameE src pos=runE src nmC (i+1):=by
      rw [hJ.2]
      conv=>lhs;unfold runE
      rw [dif_pos (by omega),if_pos hx]
     refine RunsS.subR [] (back (i+1) (by exact (⟨by omega,hn⟩)) (by (try dsimp only);omega)) sH sH
    refine RunsS.callV (fun Ez Hz Az Sz K=>rPart_fn (byteAt src i)) ?_
    conv=>whnf
    rw [Bool.eq_false_iff.2 hx]
    (try refine gS ?_);conv=>whnf
    have hn:nameE src pos=i:=by
     rw [hJ.2]
     unfold runE
     rw [dif_pos (by omega),if_neg hx]
    refine RunsS.subR [] (meet (i) (by exact (hn.symm))) sH sH
   conv=>whnf
   have hn:nameE src pos=i:=by
    rw [hJ.2]
    unfold runE
    rw [dif_neg (by omega)]
   refine RunsS.subR [] (meet (i) (by exact (hn.symm))) sH sH
  refine RunsS.callV (fun Ez Hz Az Sz K=>rLetter_fn (byteAt src pos)) ?_
  conv=>whnf
  rw [decide_eq_false h2]
  (try refine gS ?_);conv=>whnf
  repeat ((first|refine oM ?_|refine oL ?_|refine oR ?_);(try intro _);conv=>whnf)
  by_cases h3:cls (byteAt src pos)=3
  ·refine RunsS.callV (fun Ez Hz Az Sz K=>rFigure_fn (byteAt src pos)) ?_
   conv=>whnf
   rw [decide_eq_true h3]
   (try refine gS ?_);conv=>whnf
   refine RunsS.meet (fun (e:Nat)=>[(7,.v (.int .i64 pos)),(6,.v (.int .i64 e)),(5,.buf 0),(0,.v (.string src))]) (fun (e:Nat)=>[toksB l 0]) 1 (fun (e:Nat)=>e=numE src pos) ?_ (fun meet=>?_)
   ·rintro e he
    have g1:pos<e:=he▸runE_gt hP (by simp [inRun,h3])
    have g2:e≤src.size:=he▸runE_le _ _ _ (by omega)
    have hsz:=size_ex src (lo:=pos) g2
    have hdg:∀i,i<(src.extract pos e).size→48≤byteAt (src.extract pos e) i∧byteAt (src.extract pos e) i≤57:=fun i hi=>by
     rw [byteAt_ex src g2 (by omega)]
     exact dig_of (runE_in src (inRun 3 3 48) pos (pos+i) (by omega) (by rw [show runE src (inRun 3 3 48) pos=e from he.symm];omega))
    have hnl:numL (bs (src.extract pos e)) 0=numF src e pos 0:=by rw [numF_eq src e g2,bs_extract]
    have hb0:byteAt (src.extract pos e) 0=byteAt src pos:=byteAt_ex src g2 (by omega)
    have hst:stepL src pos l=if 1<e - pos∧byteAt src pos=48 then none else match numF src e pos 0 with|none=>none|some n=>some (e,l++[⟨2,pos,⟨#[]⟩,n⟩]):=by simp only [stepL,h3,←he];rfl
    cases hz:numF src e pos 0 with
    |none=>
     have hs0:stepL src pos l=none:=by rw [hst,hz];simp
     rw [hJ.2,lexG_none hP hs0] at ho
     subst ho
     (try refine gS ?_);conv=>whnf
     repeat ((first|refine oM ?_|refine oL ?_|refine oR ?_);(try intro _);conv=>whnf)
     refine RunsS.callV (fun Ez Hz Az Sz K=>rNumber_fn (src.extract pos e) (by omega) hdg) ?_
     conv=>whnf
     rw [hnl,hz]
     try dsimp only
     (try refine gS ?_);conv=>whnf
     try refine RunsS.retU ?_
     exact UnwS.ret tab Tryz.func25 rfl (eN () trivial)
    |some n=>
     by_cases hb:1<e - pos∧byteAt src pos=48
     ·have hs0:stepL src pos l=none:=by rw [hst,if_pos hb]
      rw [hJ.2,lexG_none hP hs0] at ho
      subst ho
      (try refine gS ?_);conv=>whnf
      repeat ((first|refine oM ?_|refine oL ?_|refine oR ?_);(try intro _);conv=>whnf)
      refine RunsS.callV (fun Ez Hz Az Sz K=>rNumber_fn (src.extract pos e) (by omega) hdg) ?_
      conv=>whnf
      rw [hnl,hz,hb0,decide_eq_false (by omega:¬((src.extract pos e).size=1∨byteAt src pos≠48))]
      try dsimp only
      (try refine gS ?_);conv=>whnf
      try refine RunsS.retU ?_
      exact UnwS.ret tab Tryz.func25 rfl (eN () trivial)
     have hs0:stepL src pos l=some (e,l++[⟨2,pos,⟨#[]⟩,n⟩]):=by rw [hst,if_neg hb,hz]
     have hok:=stepL_ok hP hs0
     (try refine gS ?_);conv=>whnf
     repeat ((first|refine oM ?_|refine oL ?_|refine oR ?_);(try intro _);conv=>whnf)
     refine RunsS.callV (fun Ez Hz Az Sz K=>rNumber_fn (src.extract pos e) (by omega) hdg) ?_
     conv=>whnf
     rw [hnl,hz,hb0,decide_eq_true (by omega:((src.extract pos e).size=1∨byteAt src pos≠48))]
     try dsimp only
     (try refine gS ?_);conv=>whnf
     refine And.intro (appOb (by rw [List.length_map];omega)) ?_;conv=>whnf
     (try refine gS ?_);conv=>whnf
     refine RunsS.rowsEq (2) (app_row l 2 pos ⟨#[]⟩ n) ?_;conv=>whnf
     refine RunsS.subR [(0,2)] (back ((e,l++[⟨2,pos,⟨#[]⟩,n⟩])) (by exact (⟨by dsimp only;omega,hJ.2.trans (lexG_some hP hs0)⟩)) (by (try dsimp only);omega)) sH sH
   refine RunsS.subR [] (RunsS.loop (fun (i:Nat)=>[(7,.v (.int .i64 pos)),(6,.v (.int .i64 i)),(5,.buf 0),(0,.v (.string src))]) (fun (i:Nat)=>[toksB l 0]) 1 (fun (i:Nat)=>(pos≤i∧i≤src.size)∧numE src pos=runE src dgC i) (fun (i:Nat)=>src.size - i) ?round15 (pos) ?J015) sH sH
   case J015=>exact (⟨by omega,rfl⟩)
   rintro i hJ back
   conv=>whnf
   refine gS ?_;conv=>whnf
   refine ⟨fun hi=>?_,fun hi=>?_⟩<;>conv=>whnf
   ·conv=>whnf
    repeat ((first|refine oM ?_|refine oL ?_|refine oR ?_);(try intro _);conv=>whnf)
    by_cases hx:cls (byteAt src i)=3
    ·refine RunsS.callV (fun Ez Hz Az Sz K=>rFigure_fn (byteAt src i)) ?_
     conv=>whnf
     rw [decide_eq_true hx]
     (try refine gS ?_);conv=>whnf
     repeat ((first|refine oM ?_|refine oL ?_|refine oR ?_);(try intro _);conv=>whnf)
     have hn:numE src pos=runE src dgC (i+1):=by
      rw [hJ.2]
      conv=>lhs;unfold runE
      rw [dif_pos (by omega),if_pos ((dgC_iff _).2 hx)]
     refine RunsS.subR [] (back (i+1) (by exact (⟨by omega,hn⟩)) (by (try dsimp only);omega)) sH sH
    refine RunsS.callV (fun Ez Hz Az Sz K=>rFigure_fn (byteAt src i)) ?_
    conv=>whnf
    rw [decide_eq_false hx]
    (try refine gS ?_);conv=>whnf
    have hn:numE src pos=i:=by
     rw [hJ.2]
     unfold runE
     rw [dif_pos (by omega),if_neg (fun e=>hx ((dgC_iff _).1 e))]
    refine RunsS.subR [] (meet (i) (by exact (hn.symm))) sH sH
   conv=>whnf
   have hn:numE src pos=i:=by
    rw [hJ.2]
    unfold runE
    rw [dif_neg (by omega)]
   refine RunsS.subR [] (meet (i) (by exact (hn.symm))) sH sH
  refine RunsS.callV (fun Ez Hz Az Sz K=>rFigure_fn (byteAt src pos)) ?_
  conv=>whnf
  rw [decide_eq_false h3]
  (try refine gS ?_);conv=>whnf
  repeat ((first|refine oM ?_|refine oL ?_|refine oR ?_);(try intro _);conv=>whnf)
  by_cases h4:cls (byteAt src pos)=4
  ·have hs0:stepL src pos l=some (pos+1,l++[⟨3,pos,src.extract pos (pos+1),0⟩]):=by simp only [stepL,h4,if_neg hcm];rfl
   have hok:=stepL_ok hP hs0
   refine RunsS.callV (fun Ez Hz Az Sz K=>rSign_fn (byteAt src pos)) ?_
   conv=>whnf
   rw [decide_eq_true h4]
   (try refine gS ?_);conv=>whnf
   repeat ((first|refine oM ?_|refine oL ?_|refine oR ?_);(try intro _);conv=>whnf)
   refine And.intro (appOb (by rw [List.length_map];omega)) ?_;conv=>whnf
   (try refine gS ?_);conv=>whnf
   refine RunsS.rowsEq (2) (app_row l 3 pos (src.extract pos (pos+1)) 0) ?_;conv=>whnf
   refine RunsS.subR [(0,2)] (back ((pos+1,l++[⟨3,pos,src.extract pos (pos+1),0⟩])) (by exact (⟨by dsimp only;omega,hJ.2.trans (lexG_some hP hs0)⟩)) (by (try dsimp only);omega)) sH sH
  have h0:cls (byteAt src pos)=0:=by
   have:=cls_cases (byteAt src pos)
   omega
  have hs0:stepL src pos l=none:=by simp [stepL,h0]
  rw [hJ.2,lexG_none hP hs0] at ho
  subst ho
  refine RunsS.callV (fun Ez Hz Az Sz K=>rSign_fn (byteAt src pos)) ?_
  conv=>whnf
  rw [decide_eq_false h4]
  try dsimp only
  (try refine gS ?_);conv=>whnf
  try refine RunsS.retU ?_
  exact UnwS.ret tab Tryz.func25 rfl (eN () trivial)
 conv=>whnf
 have hend:lexG src pos l=.inl l:=by
  unfold lexG
  rw [dif_neg (by omega)]
 rw [hJ.2,hend] at ho
 subst ho
 try refine RunsS.retU ?_
 exact UnwS.ret tab Tryz.func25 rfl (eN () trivial)
end Go.Proofs.YtgbeechjghajcaaGreatDoor

namespace Go.Proofs.YtgbeechjghajcaaGreatDoor
open Go Go.Shelf Go.Proofs
def layR:Ren:=⟨fun x=>match x with|129=>180|143=>152|144=>115|156=>57|165=>117|166=>118|169=>119|171=>56|217=>175|219=>167|224=>177|225=>176|240=>154|241=>155|243=>116|246=>153|266=>184|267=>178|276=>172|277=>173|283=>168|284=>169|285=>170|286=>171|314=>185|317=>179|318=>181|319=>182|320=>183|337=>186|338=>187|n=>n,fun x=>match x with|0=>0|2=>2|3=>3|4=>4|5=>5|9=>9|20=>20|31=>25|37=>177|46=>256|51=>259|53=>244|70=>176|72=>179|75=>182|76=>183|80=>127|127=>227|146=>263|164=>249|171=>243|173=>247|212=>258|213=>260|232=>266|233=>267|n=>n,fun x=>match x with|1=>0|17=>1|18=>2|19=>3|n=>n⟩
theorem layJoin:Lays.n156 Tryz.prog layR:={
 mixed:=by kernel_rfl
 f156:=by kernel_rfl
 f165:=by kernel_rfl
 f166:=by kernel_rfl
 f169:=by kernel_rfl
 f240:=by kernel_rfl
 f241:=by kernel_rfl
 f276:=by kernel_rfl
 f277:=by kernel_rfl
 t0:=by kernel_rfl
 a0:=fun _=>by kernel_rfl
 z0:=fun _=>by kernel_rfl
 v0:=fun _=>by kernel_rfl
 t3:=by kernel_rfl
 a3:=fun _=>by kernel_rfl
 z3:=fun _=>by kernel_rfl
 v3:=fun _=>by kernel_rfl
 t4:=by kernel_rfl
 a4:=fun _=>by kernel_rfl
 z4:=fun _=>by kernel_rfl
 v4:=fun _=>by kernel_rfl
 t9:=by kernel_rfl
 a9:=fun _=>by kernel_rfl
 z9:=fun _=>by kernel_rfl
 v9:=fun _=>by kernel_rfl
 t20:=by kernel_rfl
 a20:=fun _=>by kernel_rfl
 z20:=fun _=>by kernel_rfl
 v20:=fun _=>by kernel_rfl
 t31:=by kernel_rfl
 a31:=fun _=>by kernel_rfl
 z31:=fun _=>by kernel_rfl
 v31:=fun _=>by kernel_rfl
 t37:=by kernel_rfl
 a37:=fun _=>by kernel_rfl
 z37:=fun _=>by kernel_rfl
 v37:=fun _=>by kernel_rfl
 t70:=by kernel_rfl
 a70:=fun _=>by kernel_rfl
 z70:=fun _=>by kernel_rfl
 v70:=fun _=>by kernel_rfl
 t72:=by kernel_rfl
 a72:=fun _=>by kernel_rfl
 z72:=fun _=>by kernel_rfl
 v72:=fun _=>by kernel_rfl
 t75:=by kernel_rfl
 a75:=fun _=>by kernel_rfl
 z75:=fun _=>by kernel_rfl
 v75:=fun _=>by kernel_rfl
 t76:=by kernel_rfl
 a76:=fun _=>by kernel_rfl
 z76:=fun _=>by kernel_rfl
 v76:=fun _=>by kernel_rfl
 t127:=by kernel_rfl
 a127:=fun _=>by kernel_rfl
 z127:=fun _=>by kernel_rfl
 v127:=fun _=>by kernel_rfl
 t164:=by kernel_rfl
 a164:=fun _=>by kernel_rfl
 z164:=fun _=>by kernel_rfl
 v164:=fun _=>by kernel_rfl
}
theorem layBuilder:Builder.Extra Tryz.prog layR:={
 sizeBuilder:=by kernel_rfl
 liesBuilder:=by kernel_rfl
 t5:=by kernel_rfl
 a5:=fun _=>by kernel_rfl
 z5:=fun _=>by kernel_rfl
 v5:=fun _=>by kernel_rfl
 infoByte:=by kernel_rfl
 cellsByte:=by kernel_rfl
 sizeByte:=by kernel_rfl
 neB5:=by decide
}
theorem layItoa:LaysM.n171 Tryz.prog layR:={
 mixed:=by kernel_rfl
 f129:=by kernel_rfl
 f171:=by kernel_rfl
 f243:=by kernel_rfl
 f246:=by kernel_rfl
 f283:=by kernel_rfl
 f284:=by kernel_rfl
 f285:=by kernel_rfl
 f286:=by kernel_rfl
 f317:=by kernel_rfl
 f318:=by kernel_rfl
 f319:=by kernel_rfl
 f320:=by kernel_rfl
 f337:=by kernel_rfl
 f338:=by kernel_rfl
 t0:=by kernel_rfl
 a0:=fun _=>by kernel_rfl
 z0:=fun _=>by kernel_rfl
 v0:=fun _=>by kernel_rfl
 t2:=by kernel_rfl
 a2:=fun _=>by kernel_rfl
 z2:=fun _=>by kernel_rfl
 v2:=fun _=>by kernel_rfl
 t3:=by kernel_rfl
 a3:=fun _=>by kernel_rfl
 z3:=fun _=>by kernel_rfl
 v3:=fun _=>by kernel_rfl
 t4:=by kernel_rfl
 a4:=fun _=>by kernel_rfl
 z4:=fun _=>by kernel_rfl
 v4:=fun _=>by kernel_rfl
 t5:=by kernel_rfl
 a5:=fun _=>by kernel_rfl
 z5:=fun _=>by kernel_rfl
 v5:=fun _=>by kernel_rfl
 t9:=by kernel_rfl
 a9:=fun _=>by kernel_rfl
 z9:=fun _=>by kernel_rfl
 v9:=fun _=>by kernel_rfl
 t20:=by kernel_rfl
 a20:=fun _=>by kernel_rfl
 z20:=fun _=>by kernel_rfl
 v20:=fun _=>by kernel_rfl
 t37:=by kernel_rfl
 a37:=fun _=>by kernel_rfl
 z37:=fun _=>by kernel_rfl
 v37:=fun _=>by kernel_rfl
 t46:=by kernel_rfl
 a46:=fun _=>by kernel_rfl
 z46:=fun _=>by kernel_rfl
 v46:=fun _=>by kernel_rfl
 t51:=by kernel_rfl
 a51:=fun _=>by kernel_rfl
 z51:=fun _=>by kernel_rfl
 v51:=fun _=>by kernel_rfl
 t53:=by kernel_rfl
 a53:=fun _=>by kernel_rfl
 z53:=fun _=>by kernel_rfl
 v53:=fun _=>by kernel_rfl
 t171:=by kernel_rfl
 a171:=fun _=>by kernel_rfl
 z171:=fun _=>by kernel_rfl
 v171:=fun _=>by kernel_rfl
 t173:=by kernel_rfl
 a173:=fun _=>by kernel_rfl
 z173:=fun _=>by kernel_rfl
 v173:=fun _=>by kernel_rfl
 t212:=by kernel_rfl
 a212:=fun _=>by kernel_rfl
 z212:=fun _=>by kernel_rfl
 v212:=fun _=>by kernel_rfl
 t213:=by kernel_rfl
 a213:=fun _=>by kernel_rfl
 z213:=fun _=>by kernel_rfl
 t232:=by kernel_rfl
 a232:=fun _=>by kernel_rfl
 z232:=fun _=>by kernel_rfl
 v232:=fun _=>by kernel_rfl
 t233:=by kernel_rfl
 a233:=fun _=>by kernel_rfl
 z233:=fun _=>by kernel_rfl
 v233:=fun _=>by kernel_rfl
 g17:=by kernel_rfl
 g18:=by kernel_rfl
 g19:=by kernel_rfl
 i0:=by kernel_rfl
 i2:=by kernel_rfl
 i3:=by kernel_rfl
 i4:=by kernel_rfl
 i5:=by kernel_rfl
 i9:=by kernel_rfl
 i20:=by kernel_rfl
 i37:=by kernel_rfl
 i46:=by kernel_rfl
 i51:=by kernel_rfl
 i53:=by kernel_rfl
 i171:=by kernel_rfl
 i173:=by kernel_rfl
 i212:=by kernel_rfl
 i232:=by kernel_rfl
 i233:=by kernel_rfl
 m17:=by kernel_rfl
 m18:=by kernel_rfl
 m19:=by kernel_rfl
}
theorem layContains:Lays.n144 Tryz.prog layR:={
 mixed:=by kernel_rfl
 f143:=by kernel_rfl
 f144:=by kernel_rfl
 f217:=by kernel_rfl
 f219:=by kernel_rfl
 f224:=by kernel_rfl
 f225:=by kernel_rfl
 f266:=by kernel_rfl
 f267:=by kernel_rfl
 f314:=by kernel_rfl
 t3:=by kernel_rfl
 a3:=fun _=>by kernel_rfl
 z3:=fun _=>by kernel_rfl
 v3:=fun _=>by kernel_rfl
 t4:=by kernel_rfl
 a4:=fun _=>by kernel_rfl
 z4:=fun _=>by kernel_rfl
 v4:=fun _=>by kernel_rfl
 t5:=by kernel_rfl
 a5:=fun _=>by kernel_rfl
 z5:=fun _=>by kernel_rfl
 v5:=fun _=>by kernel_rfl
 t9:=by kernel_rfl
 a9:=fun _=>by kernel_rfl
 z9:=fun _=>by kernel_rfl
 v9:=fun _=>by kernel_rfl
 t46:=by kernel_rfl
 a46:=fun _=>by kernel_rfl
 z46:=fun _=>by kernel_rfl
 v46:=fun _=>by kernel_rfl
 t51:=by kernel_rfl
 a51:=fun _=>by kernel_rfl
 z51:=fun _=>by kernel_rfl
 v51:=fun _=>by kernel_rfl
 t146:=by kernel_rfl
 a146:=fun _=>by kernel_rfl
 z146:=fun _=>by kernel_rfl
 v146:=fun _=>by kernel_rfl
 g1:=by kernel_rfl
}
end Go.Proofs.YtgbeechjghajcaaGreatDoor

namespace Go.Proofs.YtgbeechjghajcaaGreatDoor
open Go Go.Fw Go.RowKit
theorem fnv_calls {P:Program} {f:FuncId} {args:Array Value} {h:Array Obj} {v:Value} (he:Fw.Enters P f) (H:∀w:World,w.heap=h→Calls P f args w fun e w'=>e=.returned v∧Below w.heap.size w w'):
  FnV P f args h fun r h'=>r=v∧Keeps h.size h h':=
 ⟨he,fun w hw=>(H w hw).mono fun e w' ⟨h1,h2⟩=>⟨⟨h2.tape,h2.os,h2.output⟩,v,h1,rfl,by rw [←hw];exact ⟨h2.size,h2.block⟩⟩⟩
def PowH (h:Array Obj):Prop:=(match h[(1:Nat)]? with|some (Obj.cells cs _ _)=>some cs|_=>none)=some (Lib.pow10Tab.map fun z=>Value.int .u64 z).toArray
theorem PowH.lt {h:Array Obj} (H:PowH h):1<h.size:=by
 unfold PowH at H
 split at H
 ·rename_i hx
  exact (Array.getElem?_eq_some_iff.1 hx).1
 cases H
theorem PowH.keeps {h h':Array Obj} (H:PowH h) (k:Keeps h.size h h'):PowH h':=by
 have:=k.same _ H.lt
 unfold PowH at H ⊢
 rw [this];exact H
theorem gPow:Tryz.prog.globalNamed "internal/strconv.uint64pow10" = some 1:=by kernel_rfl
theorem PowH.tab {w:World} (H:PowH w.heap):Lib.TabIs Tryz.prog w "internal/strconv.uint64pow10" .u64 Lib.pow10Tab:=by
 unfold Lib.TabIs World.var?
 rw [gPow]
 exact H
theorem Itoa_fn {h:Array Obj} (n:Int) (h0:0≤n) (h1:n≤9223372036854775807) (hT:PowH h):FnV Tryz.prog 56 #[.int .i64 n] h fun r h'=>r=.string ⟨(Lib.itoa n).toArray⟩∧Keeps h.size h h':=
 fnv_calls ⟨_,_,Tryz.func56,by kernel_rfl,rfl⟩ fun w hw=>(Any.strconv_Itoa layItoa n (by omega) h1 w (PowH.tab (by rw [hw];exact hT))).mono fun e w' ⟨e1,k,os,e2⟩=>⟨e1,by
  subst e2
  refine ⟨rfl,rfl,rfl,?_,fun i hi=>?_⟩
  ·show w.heap.size≤(w.heap++os).size
   simp
  show (w.heap++os)[i]? = _
  rw [Array.getElem?_append_left hi]⟩
theorem Contains_fn {h:Array Obj} (s:ByteArray) (c:UInt8):FnV Tryz.prog 115 #[.string s,.string ⟨#[c]⟩] h fun r h'=>r=.bool (decide (0≤Lib.indexByte s.data.toList c))∧Keeps h.size h h':=
 fnv_calls ⟨_,_,Tryz.func115,by kernel_rfl,rfl⟩ fun w hw=>(Any.strings_Contains_one layContains s c w).mono fun e w' ⟨e1,e2⟩=>⟨e1,e2▸Below.refl _ _⟩
theorem Join_fn {h:Array Obj} {e:TypeId} {v:Value} (xs:List ByteArray) (sep:ByteArray) (hv:Own 0 h e 1 v (xs.map fun x=>[Value.string x]).length (xs.map fun x=>[Value.string x]).flatten) (hN:xs.length≤65536) (hl:(Lib.join (xs.map (·.data.toList)) sep.data.toList).length≤140737488355328):
  FnV Tryz.prog 57 #[v,.string sep] h fun r h'=>r=.string ⟨(Lib.join (xs.map (·.data.toList)) sep.data.toList).toArray⟩∧Keeps h.size h h':=by
 have hfl:(xs.map fun x=>[Value.string x]).flatten=xs.map Value.string:=by
  clear hv hN hl
  induction xs with
  |nil=>rfl
  |cons x xs ih=>simp [ih]
 rw [hfl,List.length_map] at hv
 obtain ⟨_,⟨rfl,h3⟩|⟨g,cap,cur,rfl,_,hat,hc,_,_,ht⟩⟩:=hv
 ·refine fnv_calls ⟨_,_,Tryz.func57,by kernel_rfl,rfl⟩ fun w hw=>?_
  have:xs=[]:=List.eq_nil_of_length_eq_zero h3
  subst this
  exact (Any.strings_Join_none layJoin layBuilder none 0 sep w).mono fun e w' ⟨e1,e2⟩=>⟨e1,e2▸Below.refl _ _⟩
 refine fnv_calls ⟨_,_,Tryz.func57,by kernel_rfl,rfl⟩ fun w hw=>?_
 refine Any.strings_Join layJoin layBuilder g 0 cap xs sep w (fun j x hx=>?_) (by rw [hw];exact hat.lt) (by omega) hc hl
 refine cell_of ?_
 rw [hw,Nat.zero_add,hat.cell]
 have h1:=congrArg (fun l=>l[j]?) ht
 have hj:=(List.getElem?_eq_some_iff.1 hx).1
 simp only [Nat.mul_one,List.getElem?_map,hx,Option.map_some,List.getElem?_take,if_pos hj,Array.getElem?_toList] at h1
 exact h1
end Go.Proofs.YtgbeechjghajcaaGreatDoor

namespace Go.Proofs.YtgbeechjghajcaaGreatDoor
open Go Go.Fw
set_option maxRecDepth 100000
set_option maxHeartbeats 99999999
theorem cls_at {c:Nat} (hc:c<256):nth clsS (0+((c:Int)).toNat*1)=some (.v (.int .i64 (cls c))):=by
 have:=clsS_get hc []
 rw [List.append_nil] at this
 rw [show 0+((c:Int)).toNat*1=c by simp]
 exact this
theorem Name_fn {h:Array Obj} (s:ByteArray):FnV Tryz.prog 114 #[.string s] h fun r h'=>r=.bool (decide (NameP s))∧Keeps h.size h h':=by
 refine Fn.ofS (args:=[.string s]) Tryz.func114 (by kernel_rfl) rfl Tryz.ntmps114 rfl fun w0 cs=>?_
 conv=>whnf
 refine gS ?_;conv=>whnf
 refine ⟨fun h1=>?_,fun h1=>?_⟩<;>conv=>whnf
 ·conv=>whnf
  refine RunsS.retU (UnwS.ret tab Tryz.func114 rfl fun Ez Hz Az Sz K=>⟨_,rfl,?_,K.keeps⟩)
  exact congrArg Value.bool (decide_eq_false fun e=>by
   have:=e.1
   have hz:s.size=0:=by rw [h1];rfl
   omega).symm
 conv=>whnf
 have hz:s.size≠0:=fun e=>h1 (by
  rw [←toArray_ext s]
  rw [List.eq_nil_of_length_eq_zero (l:=bs s) (by rw [bs_len];exact e)])
 refine ⟨fun h2=>?_,fun h2=>?_⟩<;>conv=>whnf
 ·conv=>whnf
  refine RunsS.retU (UnwS.ret tab Tryz.func114 rfl fun Ez Hz Az Sz K=>⟨_,rfl,?_,K.keeps⟩)
  exact congrArg Value.bool (decide_eq_false fun e=>by have:=e.1;omega).symm
 conv=>whnf
 have hb0:byteAt s (Int.toNat 0)<256:=byteAt_lt _ _
 refine RunsS.callV (fun Ez Hz Az Sz K=>classes_fn) ?_
 conv=>whnf
 (try refine gS ?_);conv=>whnf
 repeat ((first|refine oM ?_|refine oL ?_|refine oR ?_);(try intro _);conv=>whnf)
 rw [evO_load (cls_at (byteAt_lt s 0)) (by rfl) (by rfl) (by rfl)]
 conv=>whnf
 refine ⟨fun h3=>?_,fun h3=>?_⟩<;>conv=>whnf
 ·conv=>whnf
  refine RunsS.subR [] (RunsS.loop (fun (i:Nat)=>[(20,.v (.int .i64 i)),(19,.v (.int .i64 s.size)),(3,.ptr 0 0),(0,.v (.string s))]) (fun (i:Nat)=>[(0,.cells 107 clsS)]) 1 (fun (i:Nat)=>i≤s.size ∧ ∀j,j<i→nmC (byteAt s j)=true) (fun (i:Nat)=>s.size - i) ?round1 (0) ?J01) sH sH
  case J01=>exact (⟨Nat.zero_le _,fun _ h=>absurd h (Nat.not_lt_zero _)⟩)
  rintro i hJ back
  try dsimp only at hJ back
  conv=>whnf
  try dsimp only
  refine gS ?_;conv=>whnf
  refine ⟨fun hk=>?_,fun hk=>?_⟩<;>conv=>whnf
  ·have hbi:byteAt s ((i:Int)).toNat<256:=byteAt_lt _ _
   conv=>whnf
   repeat ((first|refine oM ?_|refine oL ?_|refine oR ?_);(try intro _);conv=>whnf)
   rw [evO_load (cls_at (byteAt_lt s i)) (by rfl) (by rfl) (by rfl)]
   conv=>whnf
   refine ⟨fun h4=>?_,fun h4=>?_⟩<;>conv=>whnf
   ·conv=>whnf
    repeat ((first|refine oM ?_|refine oL ?_|refine oR ?_);(try intro _);conv=>whnf)
    refine RunsS.subR [] (back (i+1) (by exact (⟨by omega,fun j hj=>(Nat.lt_succ_iff_lt_or_eq.1 hj).elim (hJ.2 j) (fun e=>e▸(nmC_iff _).2 (.inl h4))⟩)) (by (try dsimp only);omega)) sH sH
   conv=>whnf
   repeat ((first|refine oM ?_|refine oL ?_|refine oR ?_);(try intro _);conv=>whnf)
   rw [evO_load (cls_at (byteAt_lt s i)) (by rfl) (by rfl) (by rfl)]
   conv=>whnf
   refine ⟨fun h5=>?_,fun h5=>?_⟩<;>conv=>whnf
   ·conv=>whnf
    repeat ((first|refine oM ?_|refine oL ?_|refine oR ?_);(try intro _);conv=>whnf)
    refine RunsS.subR [] (back (i+1) (by exact (⟨by omega,fun j hj=>(Nat.lt_succ_iff_lt_or_eq.1 hj).elim (hJ.2 j) (fun e=>e▸(nmC_iff _).2 (.inr (.inl h5)))⟩)) (by (try dsimp only);omega)) sH sH
   conv=>whnf
   repeat ((first|refine oM ?_|refine oL ?_|refine oR ?_);(try intro _);conv=>whnf)
   refine ⟨fun h6=>?_,fun h6=>?_⟩<;>conv=>whnf
   ·conv=>whnf
    repeat ((first|refine oM ?_|refine oL ?_|refine oR ?_);(try intro _);conv=>whnf)
    have h6:byteAt s i=95:=by exact_mod_cast h6
    refine RunsS.subR [] (back (i+1) (by exact (⟨by omega,fun j hj=>(Nat.lt_succ_iff_lt_or_eq.1 hj).elim (hJ.2 j) (fun e=>e▸(nmC_iff _).2 (.inr (.inr h6)))⟩)) (by (try dsimp only);omega)) sH sH
   conv=>whnf
   refine RunsS.retU (UnwS.ret tab Tryz.func114 rfl fun Ez Hz Az Sz K=>⟨_,rfl,?_,K.keeps⟩)
   refine congrArg Value.bool (decide_eq_false fun e=>?_).symm
   have h4:cls (byteAt s i)≠2:=h4
   have h5:cls (byteAt s i)≠3:=h5
   have h6:byteAt s i≠95:=fun e=>h6 (by exact_mod_cast e)
   have:=(nmC_iff _).1 (e.2.2 i (by omega))
   omega
  conv=>whnf
  refine RunsS.retU (UnwS.ret tab Tryz.func114 rfl fun Ez Hz Az Sz K=>⟨_,rfl,?_,K.keeps⟩)
  exact congrArg Value.bool (decide_eq_true (⟨by omega,h3,fun j hj=>hJ.2 j (by omega)⟩:NameP s)).symm
 conv=>whnf
 refine RunsS.retU (UnwS.ret tab Tryz.func114 rfl fun Ez Hz Az Sz K=>⟨_,rfl,?_,K.keeps⟩)
 exact congrArg Value.bool (decide_eq_false fun e=>h3 e.2.1).symm

abbrev ValidP (t:Tok):Prop:=(t.kind=1∧NameP t.text∧t.n=0)∨(t.kind=2∧t.text=⟨#[]⟩∧0≤t.n∧t.n≤1099511627776)∨(t.kind=3∧t.text.size=1∧cls (byteAt t.text 0)=4∧t.n=0)
def Tok.v (t:Tok):Value:=.agg #[.int .i64 t.kind,.int .i64 t.pos,.string t.text,.int .i64 t.n]
theorem sign_index:∀n,n<256→decide (0≤Lib.indexByte (⟨#[123,125,40,41,44,59,61,35,47,60,33,45,46,58,43]⟩:ByteArray).data.toList (UInt8.ofNat n))=decide (cls n=4):=by decide
theorem one_byte {s:ByteArray} (h:s.size=1):∃c:UInt8,s=⟨#[c]⟩∧byteAt s 0=c.toNat:=by
 obtain ⟨c,h1,h2⟩:=bs_drop (s:=s) (i:=0) (by omega)
 refine ⟨c,?_,h2.symm⟩
 rw [List.drop_zero] at h1
 have:(bs s).drop (0+1)=[]:=List.drop_eq_nil_of_le (by rw [bs_len];omega)
 rw [this] at h1
 rw [←toArray_ext s,h1]
theorem valid_fn {h:Array Obj} (t:Tok):FnV Tryz.prog 55 #[t.v] h fun r h'=>r=.bool (decide (ValidP t))∧Keeps h.size h h':=by
 obtain ⟨k,p,s,n⟩:=t
 refine Fn.ofS (args:=[.agg #[.int .i64 k,.int .i64 p,.string s,.int .i64 n]]) Tryz.func55 (by kernel_rfl) rfl Tryz.ntmps55 rfl fun w0 cs=>?_
 conv=>whnf
 refine gS ?_;conv=>whnf
 refine ⟨fun h1=>?_,fun h1=>?_⟩<;>conv=>whnf
 ·subst h1
  conv=>whnf
  by_cases hn:NameP s
  ·refine RunsS.callV (fun Ez Hz Az Sz K=>Name_fn s) ?_
   conv=>whnf
   rw [decide_eq_true hn]
   try dsimp only
   (try refine gS ?_);conv=>whnf
   refine RunsS.retU (UnwS.ret tab Tryz.func55 rfl fun Ez Hz Az Sz K=>⟨_,rfl,?_,K.keeps⟩)
   exact congrArg Value.bool (decide_eq_decide.2 ⟨fun e=>.inl ⟨rfl,hn,e⟩,fun e=>by rcases e with e|e|e<;>first|exact e.2.2|(have:=e.1;simp at this)⟩)
  refine RunsS.callV (fun Ez Hz Az Sz K=>Name_fn s) ?_
  conv=>whnf
  rw [decide_eq_false hn]
  try dsimp only
  (try refine gS ?_);conv=>whnf
  refine RunsS.retU (UnwS.ret tab Tryz.func55 rfl fun Ez Hz Az Sz K=>⟨_,rfl,?_,K.keeps⟩)
  exact congrArg Value.bool (decide_eq_false (by simp [ValidP,hn])).symm
 conv=>whnf
 refine ⟨fun h2=>?_,fun h2=>?_⟩<;>conv=>whnf
 ·subst h2
  conv=>whnf
  refine ⟨fun h3=>?_,fun h3=>?_⟩<;>conv=>whnf
  ·conv=>whnf
   refine ⟨fun h4=>?_,fun h4=>?_⟩<;>conv=>whnf
   ·conv=>whnf
    refine RunsS.retU (UnwS.ret tab Tryz.func55 rfl fun Ez Hz Az Sz K=>⟨_,rfl,?_,K.keeps⟩)
    have h3:s=⟨#[]⟩:=h3
    exact congrArg Value.bool (decide_eq_decide.2 (by simp [ValidP,h3,h4]))
   conv=>whnf
   refine RunsS.retU (UnwS.ret tab Tryz.func55 rfl fun Ez Hz Az Sz K=>⟨_,rfl,?_,K.keeps⟩)
   exact congrArg Value.bool (decide_eq_false (by simp [ValidP];omega)).symm
  conv=>whnf
  refine RunsS.retU (UnwS.ret tab Tryz.func55 rfl fun Ez Hz Az Sz K=>⟨_,rfl,?_,K.keeps⟩)
  have h3:s≠⟨#[]⟩:=h3
  exact congrArg Value.bool (decide_eq_false (by simp [ValidP,h3])).symm
 conv=>whnf
 refine ⟨fun h3=>?_,fun h3=>?_⟩<;>conv=>whnf
 ·subst h3
  conv=>whnf
  refine ⟨fun h4=>?_,fun h4=>?_⟩<;>conv=>whnf
  ·have h4:s.size=1:=by omega
   obtain ⟨c,rfl,hc⟩:=one_byte h4
   have hs:=sign_index c.toNat (UInt8.toNat_lt c)
   rw [UInt8.ofNat_toNat] at hs
   by_cases h5:cls c.toNat=4
   ·conv=>whnf
    refine RunsS.callV (fun Ez Hz Az Sz K=>Contains_fn _ c) ?_
    conv=>whnf
    rw [hs,decide_eq_true h5]
    try dsimp only
    (try refine gS ?_);conv=>whnf
    refine RunsS.retU (UnwS.ret tab Tryz.func55 rfl fun Ez Hz Az Sz K=>⟨_,rfl,?_,K.keeps⟩)
    exact congrArg Value.bool (decide_eq_decide.2 (by simp [ValidP,h4,hc,h5]))
   conv=>whnf
   refine RunsS.callV (fun Ez Hz Az Sz K=>Contains_fn _ c) ?_
   conv=>whnf
   rw [hs,decide_eq_false h5]
   try dsimp only
   (try refine gS ?_);conv=>whnf
   refine RunsS.retU (UnwS.ret tab Tryz.func55 rfl fun Ez Hz Az Sz K=>⟨_,rfl,?_,K.keeps⟩)
   exact congrArg Value.bool (decide_eq_false (by simp [ValidP,hc,h5])).symm
  conv=>whnf
  refine RunsS.retU (UnwS.ret tab Tryz.func55 rfl fun Ez Hz Az Sz K=>⟨_,rfl,?_,K.keeps⟩)
  exact congrArg Value.bool (decide_eq_false (by simp [ValidP];omega)).symm
 conv=>whnf
 refine RunsS.retU (UnwS.ret tab Tryz.func55 rfl fun Ez Hz Az Sz K=>⟨_,rfl,?_,K.keeps⟩)
 exact congrArg Value.bool (decide_eq_false (by simp [ValidP,h1,h2,h3])).symm

def rowsT (l:List Tok):List (List Value):=l.map Tok.row
theorem rowsT_len (l:List Tok):(rowsT l).length=l.length:=by simp [rowsT]
theorem rowsT_get {l:List Tok} {k:Nat} (hk:k<l.length):(rowsT l)[k]? = some l[k].row:=by
 simp [rowsT,hk]
def Tok.key (t:Tok):Int×ByteArray×Int:=(t.kind,t.text,t.n)
abbrev SameP (a b:List Tok):Prop:=a.map Tok.key=b.map Tok.key
def fewLT (l:List Tok):Int:=l.foldl (fun n t=>IntKind.i64.wrap (n+(t.text.size:Int))) 0

def txT (t:Tok):ByteArray:=if t.kind=2 then ⟨(Lib.itoa t.n).toArray⟩ else t.text
def joinB (l:List Tok):ByteArray:=⟨(Lib.join (l.map fun t=>bs (txT t)) [32]).toArray⟩
abbrev AllV (l:List Tok):Prop:=∀t∈l,ValidP t
def textV (l:List Tok):Value:=if AllV l then .tuple #[.string (joinB l),.int .i64 0] else .tuple #[.string ⟨#[]⟩,.int .i64 50]
theorem nDigits_le:∀(k u:Nat),u<10^(k+1)→Lib.nDigits u≤k+1
 |0,u,h=>by rw [Lib.nDigits_small (by simpa using h)];exact Nat.le_refl _
 |k+1,u,h=>by
  by_cases hu:u<10
  ·rw [Lib.nDigits_small hu];omega
  rw [Lib.nDigits_big hu]
  rw [Nat.pow_succ] at h
  have:=nDigits_le k (u/10) (by omega)
  omega
theorem itoa_nat {n:Int} (h:0≤n):Lib.itoa n=Lib.decDigits n.toNat:=by
 unfold Lib.itoa
 rw [if_neg (by omega)]
theorem txT_size {t:Tok} (h:ValidP t):(txT t).size≤32:=by
 unfold txT
 rcases h with ⟨h1,h2,_⟩|⟨h1,_,h3,h4⟩|⟨h1,h2,_⟩
 ·rw [if_neg (by omega)]
  have:=h2.1
  omega
 ·rw [if_pos h1,itoa_nat h3]
  show (Lib.decDigits t.n.toNat).toArray.size≤32
  rw [List.size_toArray,Lib.decDigits_length]
  have:=nDigits_le 12 t.n.toNat (by omega)
  omega
 rw [if_neg (by omega)]
 omega
theorem joinB_size {l:List Tok} (h:AllV l):(joinB l).size≤33*l.length:=by
 show (Lib.join (l.map fun t=>bs (txT t)) [32]).toArray.size≤_
 rw [List.size_toArray]
 cases l with
 |nil=>simp [Lib.join_nil]
 |cons t l=>
  have key:∀l:List Tok,AllV l→Lib.lens (l.map fun t=>bs (txT t))≤32*l.length:=by
   intro l
   induction l with
   |nil=>intro _;simp [Lib.lens]
   |cons t l ih=>
    intro h
    have h1:=txT_size (h t (List.mem_cons_self ..))
    have h2:=ih fun t ht=>h t (List.mem_cons_of_mem _ ht)
    simp only [Lib.lens,List.map_cons,List.sum_cons,List.length_cons,bs_len] at h2 ⊢
    omega
  rw [List.map_cons,Lib.join_length]
  have:=key (t::l) h
  simp only [List.map_cons,List.length_cons,List.length_map,List.length_nil] at this ⊢
  omega
theorem allV_take {l:List Tok} {k:Nat} (hk:k<l.length) (h:AllV (l.take k)) (hv:ValidP l[k]):AllV (l.take (k+1)):=by
 rw [List.take_succ_eq_append_getElem hk]
 intro t ht
 rcases List.mem_append.1 ht with ht|ht
 ·exact h t ht
 rw [List.mem_singleton.1 ht];exact hv
def rowsX (l:List Tok):List (List Value):=(l.map txT).map fun x=>[Value.string x]
theorem rowsX_app {l:List Tok} {k:Nat} (hk:k<l.length) {x:ByteArray} (hx:x=txT l[k]):rowsX (l.take k)++chunk 1 1 [Value.string x]=rowsX (l.take (k+1)):=by
 unfold rowsX
 rw [List.take_succ_eq_append_getElem hk,List.map_append,List.map_append,hx];rfl
theorem rowsX_len (l:List Tok):(rowsX l).length=l.length:=by simp [rowsX]
theorem Text_fn {h:Array Obj} (l:List Tok) (h200:l.length≤65536) {v:Value} (hv:Ro h v 4 (rowsT l)) (hT:PowH h):FnV Tryz.prog 20 #[v] h fun r h'=>r=textV l∧Keeps h.size h h':=by
 have hl:=rowsT_len l
 have hm:=hv.len
 refine Fn.ofG (envL [v]) 1 [.buf 0] [(0,.ro (4) (rowsT l))] (fun k=>k<_) Tryz.func20 (by kernel_rfl) rfl Tryz.ntmps20 rfl (fun _ hk=>hk) (Sat.ros (vs:=[v]) (l:=[(4,rowsT l)]) ⟨hv,trivial⟩) fun w0 cs=>?_
 conv=>whnf
 refine gS ?_;conv=>whnf
 refine RunsS.subR (nx':=1) (l':=[(9,.v (.int .i64 0)),(8,.v (.int .i64 (rowsT l).length)),(7,.buf 0),(4,.v (.slice none 0 0))]) (H':=[(0,.ro 4 (rowsT l))]) [] ?_ sH sH
 refine RunsS.nilOwn (l':=[(9,.v (.int .i64 0)),(8,.v (.int .i64 (rowsT l).length)),(7,.buf 0),(4,.buf 1)]) (H':=[(0,.ro 4 (rowsT l))]) 9 1 ?_ (by rfl) (by rfl) (by rfl)
 refine RunsS.subR [] (RunsS.loop (fun (k:Nat)=>[(9,.v (.int .i64 k)),(8,.v (.int .i64 (rowsT l).length)),(7,.buf 0),(4,.buf 1)]) (fun (k:Nat)=>[(0,.ro 4 (rowsT l)),(1,.own 9 1 (rowsX (l.take k)))]) 2 (fun (k:Nat)=>k≤l.length∧AllV (l.take k)) (fun (k:Nat)=>l.length - k) ?round1 (0) ?J01) sH sH
 case J01=>exact (⟨Nat.zero_le _,fun _ h=>(by cases h)⟩)
 rintro k hJ back
 try dsimp only at hJ back
 conv=>whnf
 try dsimp only
 refine gS ?_;conv=>whnf
 refine ⟨fun hk=>?_,fun hk=>?_⟩<;>conv=>whnf
 ·have hk:k<l.length:=by omega
  conv=>whnf
  repeat ((first|refine oM ?_|refine oL ?_|refine oR ?_);(try intro _);conv=>whnf)
  refine ⟨_,rowsT_get hk,?_⟩;conv=>whnf
  try (refine oN ?_;conv=>whnf)
  by_cases hv:ValidP l[k]
  ·refine RunsS.callV (fun Ez Hz Az Sz K=>valid_fn l[k]) ?_
   conv=>whnf
   rw [decide_eq_true hv]
   (try refine gS ?_);conv=>whnf
   refine ⟨fun h2=>?_,fun h2=>?_⟩<;>conv=>whnf
   ·have hx:txT l[k]=⟨(Lib.itoa l[k].n).toArray⟩:=if_pos h2
    have hn:0≤l[k].n∧l[k].n≤1099511627776:=by
     rcases hv with e|e|e
     ·have:=e.1;omega
     ·exact e.2.2
     have:=e.1;omega
    conv=>whnf
    refine RunsS.callV (fun Ez Hz Az Sz K=>Itoa_fn l[k].n hn.1 (by omega) (hT.keeps ⟨K.size,K.same⟩)) ?_
    conv=>whnf
    (try refine gS ?_);conv=>whnf
    refine And.intro (appOb (by rw [rowsX_len,List.length_take];omega)) ?_;conv=>whnf
    conv=>whnf
    repeat ((first|refine oM ?_|refine oL ?_|refine oR ?_);(try intro _);conv=>whnf)
    refine RunsS.rowsEq (4) (rowsX_app hk hx.symm) ?_;conv=>whnf
    refine RunsS.subR [(1,4)] (back (k+1) (by exact (⟨hk,allV_take hk hJ.2 hv⟩)) (by (try dsimp only);omega)) sH sH
   have hx:txT l[k]=l[k].text:=if_neg h2
   conv=>whnf
   refine And.intro (appOb (by rw [rowsX_len,List.length_take];omega)) ?_;conv=>whnf
   conv=>whnf
   repeat ((first|refine oM ?_|refine oL ?_|refine oR ?_);(try intro _);conv=>whnf)
   refine RunsS.rowsEq (4) (rowsX_app hk hx.symm) ?_;conv=>whnf
   refine RunsS.subR [(1,4)] (back (k+1) (by exact (⟨hk,allV_take hk hJ.2 hv⟩)) (by (try dsimp only);omega)) sH sH
  refine RunsS.callV (fun Ez Hz Az Sz K=>valid_fn l[k]) ?_
  conv=>whnf
  rw [decide_eq_false hv]
  (try refine gS ?_);conv=>whnf
  refine RunsS.retU (UnwS.ret tab Tryz.func20 rfl fun Ez Hz Az Sz K=>⟨_,rfl,?_,K.keeps⟩)
  unfold textV
  rw [if_neg fun e=>hv (e _ (List.getElem_mem hk))];rfl
 have hk:k=l.length:=by omega
 have hall:=hJ.2
 rw [hk,List.take_length] at hall
 conv=>whnf
 rw [hk,List.take_length]
 have hj:(Lib.join ((l.map txT).map (·.data.toList)) (⟨#[32]⟩:ByteArray).data.toList)=Lib.join (l.map fun t=>bs (txT t)) [32]:=by rw [List.map_map];rfl
 have hsz:=joinB_size hall
 have hsz':(Lib.join (l.map fun t=>bs (txT t)) [32]).length≤33*l.length:=by
  rw [←List.size_toArray];exact hsz
 refine RunsS.callV (fun Ez Hz Az Sz K=>Join_fn (l.map txT) ⟨#[32]⟩ (Sz.ok (1,_) (lookH_mem rfl)).2.1 (by rw [List.length_map];omega) (by rw [hj];omega)) ?_
 conv=>whnf
 (try refine gS ?_);conv=>whnf
 refine RunsS.retU (UnwS.ret tab Tryz.func20 rfl fun Ez Hz Az Sz K=>⟨_,rfl,?_,K.keeps⟩)
 unfold textV
 rw [if_pos hall,hj];rfl
theorem dec_split (u:Nat):Lib.decDigits u=(if u<10 then [] else Lib.decDigits (u/10))++[UInt8.ofNat (48+u%10)]:=by
 rw [Lib.decDigits]
 split
 ·rw [Nat.mod_eq_of_lt (by assumption)];rfl
 rfl

theorem lexA_eq (src:ByteArray):lexA src=match lexS (bs src) 0 with
  | .inl l=>.inl (toksP l)
  | .inr q=>.inr q:=by
 unfold lexA
 rw [lexG_eq src 0 (Nat.zero_le _),List.drop_zero]
 cases lexS (bs src) 0<;>simp
theorem lexO_ok {src:ByteArray} {l:List (Nat×Tk)} (h:lexS (bs src) 0=.inl l):lexO src=.ret (.tup [.buf 0,.v (.int .i64 0),.v (.int .i64 0)]) 1 [toksB (toksP l) 0]:=by
 unfold lexO
 rw [lexA_eq,h]
theorem lexO_err {src:ByteArray} {q:Nat} (h:lexS (bs src) 0=.inr q):lexO src=.ret (.tup [.v (.slice none 0 0),.v (.int .i64 q),.v (.int .i64 50)]) 0 []:=by
 unfold lexO
 rw [lexA_eq,h]
theorem lexOk_fn {src:ByteArray} (hs:src.size≤65536) {l:List (Nat×Tk)} (h:lexS (bs src) 0=.inl l):FnS Tryz.prog 19 0 [.v (.string src)] [] (fun _:Unit=>True) (fun _=>.ret (.tup [.buf 0,.v (.int .i64 0),.v (.int .i64 0)]) 1 [toksB (toksP l) 0]):=by
 have:=lex_fn src hs
 rwa [lexO_ok h] at this
theorem lexErr_fn {src:ByteArray} (hs:src.size≤65536) {q:Nat} (h:lexS (bs src) 0=.inr q):FnS Tryz.prog 19 0 [.v (.string src)] [] (fun _:Unit=>True) (fun _=>.ret (.tup [.v (.slice none 0 0),.v (.int .i64 q),.v (.int .i64 50)]) 0 []):=by
 have:=lex_fn src hs
 rwa [lexO_err h] at this
theorem rlexErr_fn {src:ByteArray} (hs:src.size≤65536) {q:Nat} (h:lexS (bs src) 0=.inr q):FnS Tryz.prog 25 0 [.v (.string src)] [] (fun _:Unit=>True) (fun _=>.ret (.tup [.v (.slice none 0 0),.v (.int .i64 q),.v (.int .i64 50)]) 0 []):=by
 have:=rlex_fn src hs
 rwa [lexO_err h] at this
end Go.Proofs.YtgbeechjghajcaaGreatDoor

namespace Go.Proofs.YtgbeechjghajcaaGreatDoor
open Go Go.Fw
abbrev NameL (b:Bs):Prop:=(1≤b.length∧b.length≤32)∧cls (b.headD 0).toNat=2 ∧ ∀c∈b,nmC c.toNat=true
def Tk.ok:Tk→Prop
 | .name b=>NameL b
 | .num n=>n≤1099511627776
 | .sign c=>cls c.toNat=4
def Tk.tx:Tk→Bs
 | .name b=>b
 | .num n=>Lib.decDigits n
 | .sign c=>[c]
theorem toNat_dig {d:Nat} (h:d<10):(UInt8.ofNat (48+d)).toNat=48+d:=by
 rw [UInt8.toNat_ofNat']
 omega
theorem dec_dig (n:Nat):∀c∈Lib.decDigits n,48≤c.toNat∧c.toNat≤57:=by
 induction n using Nat.strongRecOn with
 |_ n ih=>
  intro c hc
  rw [dec_split] at hc
  rcases List.mem_append.1 hc with hc|hc
  ·split at hc
   ·cases hc
   exact ih (n/10) (by omega) c hc
  rw [List.mem_singleton.1 hc,toNat_dig (by omega)]
  omega
theorem dec_ne (n:Nat):Lib.decDigits n ≠ []:=by
 rw [dec_split];simp
theorem dec_head (n:Nat) (h:1≤n):((Lib.decDigits n).headD 0).toNat≠48:=by
 induction n using Nat.strongRecOn with
 |_ n ih=>
  rw [dec_split]
  split
  ·rw [List.nil_append]
   show (UInt8.ofNat (48+n%10)).toNat≠48
   rw [toNat_dig (by omega)]
   omega
  have:=ih (n/10) (by omega) (by omega)
  have hn:=dec_ne (n/10)
  cases hd:Lib.decDigits (n/10) with
  |nil=>exact absurd hd hn
  |cons x r=>rw [hd] at this;simpa using this
theorem numL_app (a b:Bs):∀x,numL (a++b) x=(numL a x).bind (numL b):=by
 induction a with
 |nil=>intro x;rfl
 |cons c r ih=>
  intro x
  simp only [List.cons_append,numL]
  split
  ·exact ih _
  rfl
theorem numL_dec (n:Nat) (h:n≤1099511627776):numL (Lib.decDigits n) 0=some n:=by
 induction n using Nat.strongRecOn with
 |_ n ih=>
  rw [dec_split,numL_app]
  have hd:=toNat_dig (d:=n%10) (by omega)
  split
  ·simp only [numL,Option.bind_some,hd]
   rw [if_pos (by omega)]
   congr 1
   omega
  rw [ih (n/10) (by omega) (by omega)]
  simp only [numL,Option.bind_some,hd]
  rw [if_pos (by omega)]
  congr 1
  omega
theorem dgC_of {c:Nat} (h:48≤c∧c≤57):dgC c=true:=(dgC_iff c).2 ((cls3 c).2 h)
theorem of_dgC {c:Nat} (h:dgC c=true):48≤c∧c≤57:=(cls3 c).1 ((dgC_iff c).1 h)
theorem dec_numL:∀(ds:Bs) (n:Nat),ds ≠ []→(∀c∈ds,48≤c.toNat∧c.toNat≤57) → ¬(1<ds.length∧(ds.headD 0).toNat=48)→numL ds 0=some n→Lib.decDigits n=ds∧(1<ds.length→10≤n):=by
 intro ds
 induction h:ds.length generalizing ds with
 |zero=>intro n hn;exact absurd (List.eq_nil_of_length_eq_zero h) hn
 |succ k ih=>
  intro n hne hd hz hnum
  obtain ⟨xs,d,rfl⟩:∃xs d,ds=xs++[d]:=⟨ds.dropLast,ds.getLast hne,(List.dropLast_concat_getLast hne).symm⟩
  have hdd:=hd d (List.mem_append_right _ (List.mem_singleton.2 rfl))
  have hback:∀x:Nat,x%10=d.toNat - 48→UInt8.ofNat (48+x%10)=d:=fun x hx=>by
   rw [hx,show 48+(d.toNat - 48)=d.toNat by omega,UInt8.ofNat_toNat]
  rw [numL_app] at hnum
  have hxk:xs.length=k:=by simpa using h
  by_cases hxs:xs=[]
  ·subst hxs
   simp only [numL,Option.bind_some] at hnum
   rw [if_pos (by omega)] at hnum
   cases hnum
   have hk0:k=0:=by simpa using h
   refine ⟨?_,fun hk=>by omega⟩
   rw [dec_split,if_pos (by omega),hback _ (by omega)]
  cases hm:numL xs 0 with
  |none=>rw [hm] at hnum;cases hnum
  |some m=>
   rw [hm] at hnum
   simp only [Option.bind_some,numL] at hnum
   split at hnum
   ·cases hnum
    have hhead:(xs++[d]).headD 0=xs.headD 0:=by
     cases xs with
     |nil=>exact absurd rfl hxs
     |cons x r=>rfl
    have hl:(xs++[d]).length=xs.length+1:=by simp
    have hpos:0<xs.length:=List.length_pos_iff.2 hxs
    rw [hhead] at hz
    obtain ⟨i1,i2⟩:=ih xs hxk m hxs (fun c hc=>hd c (List.mem_append_left _ hc)) (fun e=>hz ⟨by omega,e.2⟩) hm
    have hm1:1≤m:=by
     by_cases h1:1<k
     ·have:=i2 h1;omega
     have:((Lib.decDigits m).headD 0).toNat≠48:=by rw [i1];exact fun e=>hz ⟨by omega,e⟩
     rcases Nat.eq_zero_or_pos m with rfl|hm
     ·exact absurd (by rw [Lib.decDigits_one (by decide)];rfl) this
     exact hm
    refine ⟨?_,fun _=>by omega⟩
    rw [dec_split,if_neg (by omega),hback _ (by omega),show (10*m+(d.toNat - 48))/10=m by omega,i1]
   cases hnum
theorem head_take {b:Bs} {k:Nat} (hk:0<k):(b.take k).headD 0=b.headD 0:=by
 cases b with
 |nil=>simp
 |cons c r=>
  cases k with
  |zero=>omega
  |succ k=>rfl
theorem stepS_tk {b:Bs} {t:Tk} {k:Nat} (h:stepS b=some (some t,k)):t.ok∧t.tx=b.take k:=by
 have hk:=stepS_ok h
 cases b with
 |nil=>cases h
 |cons c r=>
  simp only [stepS] at h
  split at h
  ·cases h
  split at h
  ·cases h
  split at h
  ·rename_i hc
   split at h
   ·cases h
   cases h
   have hle:=runL_le nmC (c::r)
   refine ⟨⟨⟨?_,?_⟩,?_,fun x hx=>runL_mem x hx⟩,rfl⟩
   ·rw [List.length_take];omega
   ·rw [List.length_take];omega
   rw [head_take hk.1];exact hc
  split at h
  ·rename_i hc
   split at h
   ·cases h
   rename_i hz
   split at h
   ·cases h
   rename_i n hn
   cases h
   have hle:=runL_le dgC (c::r)
   have hlen:((c::r).take (runL dgC (c::r))).length=runL dgC (c::r):=by rw [List.length_take];omega
   obtain ⟨h1,_⟩:=dec_numL _ n (fun e=>by rw [e] at hlen;simp at hlen;omega) (fun x hx=>of_dgC (runL_mem x hx)) (by rw [hlen,head_take hk.1];exact hz) hn
   refine ⟨?_,h1⟩
   have key:∀(ds:Bs) (a n:Nat),a≤1099511627776→numL ds a=some n→n≤1099511627776:=by
    intro ds
    induction ds with
    |nil=>intro a n ha hn;cases hn;exact ha
    |cons x xs ih=>
     intro a n ha hn
     simp only [numL] at hn
     split at hn
     ·exact ih _ _ (by assumption) hn
     cases hn
   exact key _ 0 n (by decide) hn
  split at h
  ·cases h
  rename_i h0 h1 h2 h3 _
  cases h
  refine ⟨?_,rfl⟩
  have:=cls_cases c.toNat
  show cls c.toNat=4
  omega
theorem step_tk {t:Tk} (ht:t.ok) {y:Bs} (hy:y=[] ∨ ∃z,y=32::z):stepS (t.tx++y)=some (some t,t.tx.length):=by
 have hrun:∀p:Nat→Bool,p 32=false→runL p y=0:=fun p hp=>by
  rcases hy with rfl|⟨z,rfl⟩
  ·rfl
  show (if p (32:UInt8).toNat then _ else _)=0
  rw [show (32:UInt8).toNat=32 from rfl,hp];rfl
 cases t with
 |name b=>
  obtain ⟨⟨h1,h2⟩,h3,h4⟩:=ht
  have hr:runL nmC (b++y)=b.length:=by
   rw [runL_app,runL_all h4,if_pos rfl,hrun nmC (by decide)];rfl
  cases b with
  |nil=>simp at h1
  |cons c r=>
   have h3:cls c.toNat=2:=h3
   simp only [Tk.tx,List.cons_append] at hr ⊢
   simp only [stepS,h3,hr]
   rw [if_neg (by decide),if_neg (by decide),if_pos trivial,if_neg (by omega)]
   rw [←List.cons_append,List.take_left]
 |num n=>
  have hd:=dec_dig n
  have hne:=dec_ne n
  have hr:runL dgC (Lib.decDigits n++y)=(Lib.decDigits n).length:=by
   rw [runL_app,runL_all fun c hc=>dgC_of (hd c hc),if_pos rfl,hrun dgC (by decide)];rfl
  have hnum:=numL_dec n ht
  have hhead:¬(1<(Lib.decDigits n).length∧((Lib.decDigits n).headD 0).toNat=48):=by
   rintro ⟨h1,h2⟩
   have:1≤n:=by
    rcases Nat.eq_zero_or_pos n with rfl|hn
    ·rw [Lib.decDigits_one (by decide)] at h1;simp at h1
    exact hn
   exact dec_head n this h2
  simp only [Tk.tx]
  generalize Lib.decDigits n=b at *
  cases b with
  |nil=>exact absurd rfl hne
  |cons c r=>
   have h3:cls c.toNat=3:=(cls3 _).2 (hd c (List.mem_cons_self ..))
   simp only [List.cons_append] at hr ⊢
   simp only [stepS,h3,hr]
   rw [if_neg (by decide),if_neg (by decide),if_neg (by decide),if_pos trivial,if_neg (show ¬(1<(c::r).length∧c.toNat=48) from hhead),←List.cons_append,List.take_left,hnum]
 |sign c=>
  have h4:cls c.toNat=4:=ht
  simp only [Tk.tx,List.cons_append,List.nil_append,stepS,h4]
  rw [if_neg (by decide),if_neg (by decide),if_neg (by decide),if_neg (by decide),if_neg]
  ·rfl
  rintro ⟨_,h⟩
  rcases hy with rfl|⟨z,rfl⟩
  ·cases h
  simp at h
theorem lexS_ok:∀(n:Nat) (b:Bs) (p:Nat) (l:List (Nat×Tk)),b.length=n→lexS b p=.inl l → ∀q∈l,q.2.ok:=by
 intro n
 induction n using Nat.strongRecOn with
 |_ n ih=>
  intro b p l hn h q hq
  by_cases hb:b=[]
  ·subst hb
   rw [lexS_nil] at h
   cases h
   cases hq
  rw [lexS_cons hb] at h
  split at h
  ·cases h
  rename_i t k hk
  have hok:=stepS_ok hk
  split at h
  ·cases h
  rename_i l' hl
  cases h
  have:=ih (b.drop k).length (by rw [List.length_drop];omega) _ _ _ rfl hl
  cases t with
  |none=>exact this q hq
  |some t=>
   rcases List.mem_cons.1 hq with rfl|hq
   ·exact (stepS_tk hk).1
   exact this q hq
theorem lexS_len:∀(n:Nat) (b:Bs) (p:Nat) (l:List (Nat×Tk)),b.length=n→lexS b p=.inl l→l.length≤n∧(l.map fun q=>q.2.tx.length).sum≤n:=by
 intro n
 induction n using Nat.strongRecOn with
 |_ n ih=>
  intro b p l hn h
  by_cases hb:b=[]
  ·subst hb
   rw [lexS_nil] at h
   cases h
   simp
  rw [lexS_cons hb] at h
  split at h
  ·cases h
  rename_i t k hk
  have hok:=stepS_ok hk
  split at h
  ·cases h
  rename_i l' hl
  cases h
  have:=ih (b.drop k).length (by rw [List.length_drop];omega) _ _ _ rfl hl
  rw [List.length_drop] at this
  cases t with
  |none=>simp only [addTk];omega
  |some t=>
   have:=(stepS_tk hk).2
   have hl:=congrArg List.length this
   rw [List.length_take] at hl
   simp only [addTk,List.length_cons,List.map_cons,List.sum_cons]
   omega

theorem lex_tok {t:Tk} (ht:t.ok) {y:Bs} (hy:y=[] ∨ ∃z,y=32::z) (p:Nat):lexS (t.tx++y) p=match lexS y (p+t.tx.length) with
  | .inr q=>.inr q
  | .inl l=>.inl ((p,t)::l):=by
 rw [lexS_step (step_tk ht hy),List.drop_left];rfl
theorem lex_space {c:UInt8} (hc:cls c.toNat=1) (z:Bs) (p:Nat):lexS (c::z) p=lexS z (p+1):=by
 have h:stepS (c::z)=some (none,1):=by simp [stepS,hc]
 rw [lexS_step h]
 show (match lexS z (p+1) with | .inr q=>_ | .inl l=>_)=_
 cases lexS z (p+1)<;>rfl
theorem lex_tail:∀(ts:List Tk),(∀t∈ts,t.ok) → ∀p,∃L,lexS (Lib.joinTail [32] (ts.map Tk.tx)) p=.inl L∧L.map (·.2)=ts
 | [],_,p=>⟨[],rfl,rfl⟩
 |t::ts,h,p=>by
  obtain ⟨L,h1,h2⟩:=lex_tail ts (fun x hx=>h x (List.mem_cons_of_mem _ hx)) (p+1+t.tx.length)
  have e:Lib.joinTail [32] ((t::ts).map Tk.tx)=32::(t.tx++Lib.joinTail [32] (ts.map Tk.tx)):=by simp [Lib.joinTail]
  have hy:Lib.joinTail [32] (ts.map Tk.tx)=[] ∨ ∃z,Lib.joinTail [32] (ts.map Tk.tx)=32::z:=by
   cases ts with
   |nil=>exact .inl rfl
   |cons u us=>exact .inr ⟨u.tx++Lib.joinTail [32] (us.map Tk.tx),by simp [Lib.joinTail]⟩
  refine ⟨(p+1,t)::L,?_,by simp [h2]⟩
  rw [e,lex_space (by decide),lex_tok (h t (List.mem_cons_self ..)) hy,h1]
theorem lex_join {ts:List Tk} (h:∀t∈ts,t.ok) (p:Nat):∃L,lexS (Lib.join (ts.map Tk.tx) [32]) p=.inl L∧L.map (·.2)=ts:=by
 cases ts with
 |nil=>exact ⟨[],rfl,rfl⟩
 |cons t ts=>
  obtain ⟨L,h1,h2⟩:=lex_tail ts (fun x hx=>h x (List.mem_cons_of_mem _ hx)) (p+t.tx.length)
  have hy:Lib.joinTail [32] (ts.map Tk.tx)=[] ∨ ∃z,Lib.joinTail [32] (ts.map Tk.tx)=32::z:=by
   cases ts with
   |nil=>exact .inl rfl
   |cons u us=>exact .inr ⟨u.tx++Lib.joinTail [32] (us.map Tk.tx),by simp [Lib.joinTail]⟩
  refine ⟨(p,t)::L,?_,by simp [h2]⟩
  rw [List.map_cons,Lib.join_cons,lex_tok (h t (List.mem_cons_self ..)) hy,h1]
theorem nameP_iff (b:Bs):NameP ⟨b.toArray⟩↔NameL b:=by
 have hb:∀i,byteAt ⟨b.toArray⟩ i=(b.getD i 0).toNat:=fun i=>rfl
 constructor
 ·rintro ⟨h1,h2,h3⟩
  refine ⟨h1,?_,fun c hc=>?_⟩
  ·rw [hb] at h2
   cases b<;>exact h2
  obtain ⟨i,hi,rfl⟩:=List.getElem_of_mem hc
  have:=h3 i hi
  rwa [hb,List.getD_eq_getElem?_getD,List.getElem?_eq_getElem hi] at this
 rintro ⟨h1,h2,h3⟩
 refine ⟨h1,?_,fun i hi=>?_⟩
 ·rw [hb]
  cases b<;>exact h2
 rw [hb,List.getD_eq_getElem?_getD,List.getElem?_eq_getElem (show i<b.length from hi)]
 exact h3 _ (List.getElem_mem _)
theorem valid_tk {k:Tok} (h:ValidP k):∃t:Tk,t.ok∧k.key=(t.tok 0).key∧bs (txT k)=t.tx:=by
 obtain ⟨kind,pos,text,n⟩:=k
 rcases h with ⟨rfl,h2,rfl⟩|⟨rfl,rfl,h3,h4⟩|⟨rfl,h2,h3,rfl⟩
 ·refine ⟨.name (bs text),(nameP_iff _).1 (by rw [toArray_ext];exact h2),?_,?_⟩
  ·show ((1:Int),text,(0:Int))=((1:Int),(⟨(bs text).toArray⟩:ByteArray),(0:Int))
   rw [toArray_ext]
  rfl
 ·have h3:0≤n:=h3
  have h4:n≤1099511627776:=h4
  obtain ⟨m,rfl⟩:∃m:Nat,n=m:=⟨n.toNat,by omega⟩
  refine ⟨.num m,?_,rfl,?_⟩
  ·show m≤_
   omega
  show bs (txT ⟨2,pos,⟨#[]⟩,m⟩)=Lib.decDigits m
  unfold txT
  rw [if_pos rfl,itoa_nat (Int.natCast_nonneg m)];rfl
 obtain ⟨c,rfl,hc⟩:=one_byte h2
 refine ⟨.sign c,?_,rfl,rfl⟩
 show cls c.toNat=4
 rw [←hc];exact h3
theorem tok_valid {t:Tk} (h:t.ok) (p:Nat):ValidP (t.tok p)∧bs (txT (t.tok p))=t.tx:=by
 cases t with
 |name b=>exact ⟨.inl ⟨rfl,(nameP_iff b).2 h,rfl⟩,rfl⟩
 |num n=>
  refine ⟨.inr (.inl ⟨rfl,rfl,by show (0:Int)≤(n:Int);omega,by show (n:Int)≤_;have:n≤1099511627776:=h;omega⟩),?_⟩
  show bs (txT ⟨2,p,⟨#[]⟩,n⟩)=Lib.decDigits n
  unfold txT
  rw [if_pos rfl,itoa_nat (Int.natCast_nonneg n)];rfl
 |sign c=>exact ⟨.inr (.inr ⟨rfl,rfl,h,rfl⟩),rfl⟩
theorem tok_key (t:Tk) (p:Nat):(t.tok p).key=(t.tok 0).key:=by cases t<;>rfl
theorem toksP_key (L:List (Nat×Tk)):(toksP L).map Tok.key=(L.map (·.2)).map fun t=>(t.tok 0).key:=by
 simp only [toksP,List.map_map]
 refine List.map_congr_left fun q _=>?_
 exact tok_key q.2 q.1
theorem valid_tks:∀ {l:List Tok},AllV l → ∃ts:List Tk,(∀t∈ts,t.ok)∧l.map Tok.key=ts.map (fun t=>(t.tok 0).key)∧(l.map fun t=>bs (txT t))=ts.map Tk.tx
 | [],_=>⟨[],fun _ h=>(by cases h),rfl,rfl⟩
 |k::l,h=>by
  obtain ⟨t,h1,h2,h3⟩:=valid_tk (h k (List.mem_cons_self ..))
  obtain ⟨ts,g1,g2,g3⟩:=valid_tks fun x hx=>h x (List.mem_cons_of_mem _ hx)
  refine ⟨t::ts,fun x hx=>?_,by simp [h2,g2],by simp [h3,g3]⟩
  rcases List.mem_cons.1 hx with rfl|hx
  ·exact h1
  exact g1 x hx
theorem lex_back {l:List Tok} (h:AllV l):∃L,lexS (bs (joinB l)) 0=.inl L∧SameP l (toksP L):=by
 obtain ⟨ts,h1,h2,h3⟩:=valid_tks h
 obtain ⟨L,g1,g2⟩:=lex_join h1 0
 refine ⟨L,?_,?_⟩
 ·show lexS (Lib.join (l.map fun t=>bs (txT t)) [32]) 0=_
  rw [h3,g1]
 show _=_
 rw [toksP_key,g2,h2]
theorem lex_allV {b:Bs} {L:List (Nat×Tk)} (h:lexS b 0=.inl L):AllV (toksP L)∧(toksP L).length≤b.length∧(joinB (toksP L)).size≤2*b.length:=by
 have hok:=lexS_ok _ b 0 L rfl h
 obtain ⟨h1,h2⟩:=lexS_len _ b 0 L rfl h
 refine ⟨fun t ht=>?_,by simpa [toksP] using h1,?_⟩
 ·obtain ⟨q,hq,rfl⟩:=List.mem_map.1 ht
  exact (tok_valid (hok q hq) q.1).1
 show (Lib.join ((toksP L).map fun t=>bs (txT t)) [32]).toArray.size≤_
 have e:((toksP L).map fun t=>bs (txT t))=L.map fun q=>q.2.tx:=by
  simp only [toksP,List.map_map]
  exact List.map_congr_left fun q hq=>(tok_valid (hok q hq) q.1).2
 rw [List.size_toArray,e]
 cases L with
 |nil=>simp [Lib.join_nil]
 |cons q L=>
  rw [List.map_cons,Lib.join_length]
  simp only [Lib.lens,List.map_cons,List.sum_cons,List.length_cons,List.length_map,List.map_map,List.length_nil,Function.comp_def] at h1 h2 ⊢
  omega
theorem runL_cons0 {p:Nat→Bool} {d:UInt8} (h:p d.toNat=false) (m:Bs):runL p (d::m)=0:=by simp [runL,h]
theorem runL_app0 {p:Nat→Bool} {d:UInt8} (h:p d.toNat=false) (a m:Bs):runL p (a++d::m)=runL p a:=by
 rw [runL_app,runL_cons0 h]
 split
 ·rename_i e;rw [e];rfl
 rfl
theorem step_app {a:Bs} (ha:a ≠ []) {d:UInt8} (m:Bs) (hd:d=10∨(d=32 ∧ ∀t k,stepS a=some (t,k)→k<a.length)):stepS (a++d::m)=stepS a:=by
 cases a with
 |nil=>exact absurd rfl ha
 |cons c r=>
  have hn:runL nmC (c::r++d::m)=runL nmC (c::r):=by
   rcases hd with rfl|⟨rfl,_⟩<;>exact runL_app0 (by decide) _ _
  have hg:runL dgC (c::r++d::m)=runL dgC (c::r):=by
   rcases hd with rfl|⟨rfl,_⟩<;>exact runL_app0 (by decide) _ _
  have t1:(c::r++d::m).take (runL nmC (c::r))=(c::r).take (runL nmC (c::r)):=List.take_append_of_le_length (runL_le _ _)
  have t2:(c::r++d::m).take (runL dgC (c::r))=(c::r).take (runL dgC (c::r)):=List.take_append_of_le_length (runL_le _ _)
  have hc:(c=47∧(r++d::m).head? = some 47)↔(c=47∧r.head? = some 47):=by
   cases r with
   |nil=>rcases hd with rfl|⟨rfl,_⟩<;>simp
   |cons x r=>simp
  simp only [List.cons_append] at hn hg t1 t2
  simp only [List.cons_append,stepS,hn,hg,t1,t2,hc]
  split
  ·rfl
  split
  ·rfl
  split
  ·rfl
  split
  ·rfl
  split
  ·rename_i h0 h1 h2 h3 hcm
   have:runL notLf (c::(r++d::m))=runL notLf (c::r):=by
    rcases hd with rfl|⟨rfl,hk⟩
    ·exact runL_app0 (a:=c::r) (by decide) m
    have hs:stepS (c::r)=some (none,runL notLf (c::r)):=by
     simp only [stepS]
     rw [if_neg h0,if_neg h1,if_neg h2,if_neg h3,if_pos hcm]
    have:=hk _ _ hs
    have e:=runL_app notLf (32::m) (c::r)
    rw [if_neg (by omega)] at e
    exact e
   rw [this]
  rfl
theorem step_take {a:Bs} {t:Option Tk} {k j:Nat} (h:stepS a=some (t,k)) (hj:k≤j):stepS (a.take j)=some (t,k):=by
 have hk:=stepS_ok h
 cases a with
 |nil=>cases h
 |cons c r=>
  obtain ⟨i,rfl⟩:∃i,j=i+1:=⟨j - 1,by omega⟩
  rw [List.take_succ_cons]
  have tk:∀n,n≤i+1→(c::r.take i).take n=(c::r).take n:=fun n hn=>by
   rw [←List.take_succ_cons,List.take_take,Nat.min_eq_left hn]
  have rt:∀p,runL p (c::r)≤i+1→runL p (c::r.take i)=runL p (c::r):=fun p hp=>by
   rw [←List.take_succ_cons];exact runL_take p _ _ hp
  simp only [stepS] at h ⊢
  split at h
  ·cases h
  rename_i h0
  rw [if_neg h0]
  split at h
  ·rename_i h1
   rw [if_pos h1];exact h
  rename_i h1
  rw [if_neg h1]
  split at h
  ·rename_i h2
   rw [if_pos h2]
   split at h
   ·cases h
   rename_i hb
   cases h
   rw [rt nmC hj,tk _ hj,if_neg hb]
  rename_i h2
  rw [if_neg h2]
  split at h
  ·rename_i h3
   rw [if_pos h3]
   split at h
   ·cases h
   rename_i hb
   split at h
   ·cases h
   rename_i n hn
   cases h
   rw [rt dgC hj,tk _ hj,if_neg hb,hn]
  rename_i h3
  rw [if_neg h3]
  split at h
  ·rename_i hcm
   cases h
   have h2:2≤runL notLf (c::r):=by
    obtain ⟨rfl,hh⟩:=hcm
    cases r with
    |nil=>cases hh
    |cons x r=>
     simp at hh
     subst hh
     simp [runL,notLf]
   have hi:0<i:=by omega
   rw [if_pos,rt notLf hj]
   refine ⟨hcm.1,?_⟩
   cases r with
   |nil=>cases hcm.2
   |cons x r=>obtain ⟨i',rfl⟩:∃i',i=i'+1:=⟨i - 1,by omega⟩;exact hcm.2
  rename_i hcm
  cases h
  rw [if_neg]
  rintro ⟨e1,e2⟩
  refine hcm ⟨e1,?_⟩
  cases r with
  |nil=>simp at e2
  |cons x r=>
   cases i with
   |zero=>simp at e2
   |succ i=>exact e2
theorem lex_joined (b:Bs):∀(n:Nat) (a:Bs) (p:Nat),a.length=n→lexS (a++10::b) p=match lexS a p with
  | .inr q=>.inr q
  | .inl l=>match lexS b (p+a.length+1) with
   | .inr q=>.inr q
   | .inl l'=>.inl (l++l'):=by
 intro n
 induction n using Nat.strongRecOn with
 |_ n ih=>
  intro a p hn
  by_cases ha:a=[]
  ·subst ha
   rw [List.nil_append,lex_space (by decide),lexS_nil]
   show lexS b (p+1)=match lexS b (p+0+1) with | .inr q=>.inr q | .inl l'=>.inl ([]++l')
   rw [Nat.add_zero]
   cases lexS b (p+1)<;>rfl
  have hs:=step_app ha b (.inl rfl)
  rw [lexS_cons ha,lexS_cons (by simp),hs]
  cases hst:stepS a with
  |none=>rfl
  |some q=>
   obtain ⟨t,k⟩:=q
   have hk:=stepS_ok hst
   dsimp only
   rw [List.drop_append_of_le_length hk.2,ih (a.drop k).length (by rw [List.length_drop];omega) _ _ rfl,List.length_drop,show p+k+(a.length - k)+1=p+a.length+1 by omega]
   cases lexS (a.drop k) (p+k) with
   |inr q=>rfl
   |inl l=>
    dsimp only
    cases lexS b (p+a.length+1) with
    |inr q=>rfl
    |inl l'=>cases t<;>rfl
theorem lex_shift:∀(n:Nat) (b:Bs) (p d:Nat),b.length=n→lexS b (p+d)=match lexS b p with
  | .inr q=>.inr (q+d)
  | .inl l=>.inl (l.map fun q=>(q.1+d,q.2)):=by
 intro n
 induction n using Nat.strongRecOn with
 |_ n ih=>
  intro b p d hn
  by_cases hb:b=[]
  ·subst hb;rfl
  rw [lexS_cons hb,lexS_cons hb]
  cases hst:stepS b with
  |none=>rfl
  |some q=>
   obtain ⟨t,k⟩:=q
   have hk:=stepS_ok hst
   dsimp only
   rw [show p+d+k=p+k+d by omega,ih (b.drop k).length (by rw [List.length_drop];omega) _ _ _ rfl]
   cases lexS (b.drop k) (p+k) with
   |inr q=>rfl
   |inl l=>cases t<;>rfl

end Go.Proofs.YtgbeechjghajcaaGreatDoor

namespace Go.Proofs.YtgbeechjghajcaaGreatDoor
open Go Go.Fw
set_option maxRecDepth 100000
set_option maxHeartbeats 99999999

theorem bs_app3 (a b:ByteArray) (c:UInt8):bs (a++⟨#[c]⟩++b)=bs a++c::bs b:=by simp [bs]

def Tok.later (d:Int) (t:Tok):Tok:={t with pos:=t.pos+d}
theorem toksP_shift (d:Nat) (l:List (Nat×Tk)):toksP (l.map fun q=>(q.1+d,q.2))=(toksP l).map (Tok.later d):=by
 simp only [toksP,List.map_map]
 refine List.map_congr_left fun q _=>?_
 obtain ⟨p,t⟩:=q
 cases t<;>simp [Tk.tok,Tok.later]
theorem toksP_app (a b:List (Nat×Tk)):toksP (a++b)=toksP a++toksP b:=by simp [toksP]
theorem lex_in:∀(n:Nat) (b:Bs) (p:Nat) (l:List (Nat×Tk)),b.length=n→lexS b p=.inl l → ∀q∈l,p≤q.1∧q.1<p+n:=by
 intro n
 induction n using Nat.strongRecOn with
 |_ n ih=>
  intro b p l hn h q hq
  by_cases hb:b=[]
  ·subst hb
   rw [lexS_nil] at h
   cases h
   cases hq
  rw [lexS_cons hb] at h
  split at h
  ·cases h
  rename_i t k hk
  have hok:=stepS_ok hk
  split at h
  ·cases h
  rename_i l' hl
  cases h
  have:=ih (b.drop k).length (by rw [List.length_drop];omega) _ _ _ rfl hl
  simp only [List.length_drop] at this
  cases t with
  |none=>
   have:=this q hq
   omega
  |some t=>
   rcases List.mem_cons.1 hq with rfl|hq
   ·dsimp only;omega
   have:=this q hq
   omega
theorem tok_pos (p:Nat) (t:Tk):(t.tok p).pos=p:=by cases t<;>rfl
theorem toksP_pos {b:Bs} {L:List (Nat×Tk)} (h:lexS b 0=.inl L):∀t∈toksP L,0≤t.pos∧t.pos<b.length:=fun t ht=>by
 obtain ⟨q,hq,rfl⟩:=List.mem_map.1 ht
 have:=lex_in _ b 0 L rfl h q hq
 rw [tok_pos]
 omega
theorem joined_lex (a b:ByteArray):lexS (bs (a++⟨#[10]⟩++b)) 0=match lexS (bs a) 0 with
  | .inr q=>.inr q
  | .inl l=>match lexS (bs b) 0 with
   | .inr q=>.inr (q+(a.size+1))
   | .inl l'=>.inl (l++l'.map fun q=>(q.1+(a.size+1),q.2)):=by
 rw [bs_app3,lex_joined (bs b) _ (bs a) 0 rfl,show 0+(bs a).length+1=0+(a.size+1) by rw [bs_len];omega,lex_shift _ (bs b) 0 (a.size+1) rfl]
 cases lexS (bs a) 0 with
 |inr q=>rfl
 |inl l=>cases lexS (bs b) 0<;>rfl
end Go.Proofs.YtgbeechjghajcaaGreatDoor

namespace Go.NatM
abbrev mt:ByteArray:=⟨#[]⟩
end Go.NatM
namespace Go.RatM
open Go Go.Fw Go.NatM
structure Rt where
 neg:Bool
 n:ByteArray
 d:ByteArray
def Rt.v (a:Rt):Value:=.agg #[.bool a.neg,.string a.n,.string a.d]
def zr:Rt:=⟨false,NatM.mt,NatM.mt⟩
structure Un where
 name:ByteArray
 of_:ByteArray
 n:Int
 d:Int
 base:Int
 scale:Rt
def Un.row (u:Un):List Value:=[.string u.name,.string u.of_,.int .i64 u.n,.int .i64 u.d,.int .i64 u.base,.bool u.scale.neg,.string u.scale.n,.string u.scale.d]
def Un.v (u:Un):Value:=.agg u.row.toArray
theorem Un.ext8 {u v:Un} (h:u.name=v.name∧u.of_=v.of_∧u.n=v.n∧u.d=v.d∧u.base=v.base∧u.scale.neg=v.scale.neg∧u.scale.n=v.scale.n∧u.scale.d=v.scale.d):u=v:=by
 obtain ⟨a,b,c,d,e,⟨f,g,i⟩⟩:=u
 obtain ⟨a',b',c',d',e',⟨f',g',i'⟩⟩:=v
 obtain ⟨rfl,rfl,rfl,rfl,rfl,rfl,rfl,rfl⟩:=h
 rfl
theorem Un.ext8_iff {u v:Un}:u=v↔(u.name=v.name∧u.of_=v.of_∧u.n=v.n∧u.d=v.d∧u.base=v.base∧u.scale.neg=v.scale.neg∧u.scale.n=v.scale.n∧u.scale.d=v.scale.d):=
 ⟨fun e=>by subst e;simp,Un.ext8⟩
instance:DecidableEq Un:=fun _ _=>decidable_of_iff _ Un.ext8_iff.symm
def rowsU (l:List Un):List (List Value):=l.map Un.row
theorem rowsU_len (l:List Un):(rowsU l).length=l.length:=by simp [rowsU]
theorem rowsU_get {l:List Un} {k:Nat} (hk:k<l.length):(rowsU l)[k]? = some l[k].row:=by simp [rowsU,hk]
end Go.RatM

namespace Go.SrcM
open Go Go.Fw Go.RatM
abbrev rws {α:Type} (f:α→List Value) (l:List α):List (List Value):=l.map f
theorem rws_len {α:Type} (f:α→List Value) (l:List α):(rws f l).length=l.length:=by simp [rws]
theorem rws_get {α:Type} {f:α→List Value} {l:List α} {k:Nat} (hk:k<l.length):(rws f l)[k]? = some (f l[k]):=by simp [rws,hk]
abbrev rwsB (l:List ByteArray):List (List Value):=rws (fun s=>[Value.string s]) l
theorem rwsB_len (l:List ByteArray):(rwsB l).length=l.length:=rws_len _ l
structure It where
 name:ByteArray
 unit:ByteArray
 mn:Int
 md:Int
 shelf:Int
 un:Int
def It.row (i:It):List Value:=[.string i.name,.string i.unit,.int .i64 i.mn,.int .i64 i.md,.int .i64 i.shelf,.int .i64 i.un]
structure Mc where
 name:ByteArray
 plant:ByteArray
 clean:Int
 pn:Int
def Mc.row (i:Mc):List Value:=[.string i.name,.string i.plant,.int .i64 i.clean,.int .i64 i.pn]
structure Cd where
 opt:ByteArray
 ch:ByteArray
 on:Int
 cn:Int
def Cd.row (i:Cd):List Value:=[.string i.opt,.string i.ch,.int .i64 i.on,.int .i64 i.cn]
structure Am where
 n:Int
 d:Int
 unit:ByteArray
 item:ByteArray
 back:Bool
 un:Int
 inn:Int
def Am.row (i:Am):List Value:=[.int .i64 i.n,.int .i64 i.d,.string i.unit,.string i.item,.bool i.back,.int .i64 i.un,.int .i64 i.inn]
structure Rn where
 mach:ByteArray
 slots:Int
 mn:Int
def Rn.row (i:Rn):List Value:=[.string i.mach,.int .i64 i.slots,.int .i64 i.mn]
structure Sw where
 a:ByteArray
 b:ByteArray
 an:Int
 bn:Int
def Sw.row (i:Sw):List Value:=[.string i.a,.string i.b,.int .i64 i.an,.int .i64 i.bn]
structure Hd where
 a:Option Addr
 c:Nat
abbrev Hd.v (h:Hd) (n:Nat):Value:=.slice h.a n h.c
structure OpV where
 name:ByteArray
 hd:Hd
 ch:List ByteArray
def OpV.row (i:OpV):List Value:=[.string i.name,.slice i.hd.a i.ch.length i.hd.c]
structure FbV where
 hd:Hd
 cs:List Cd
def FbV.row (i:FbV):List Value:=[.slice i.hd.a i.cs.length i.hd.c]
structure RcV where
 item:ByteArray
 plant:ByteArray
 fr:Int
 to:Int
 hc:Hd
 cs:List Cd
 hi:Hd
 inn:List Am
 ho:Hd
 out:List Am
 rwN:Int
 rwD:Int
 yN:Int
 yD:Int
 tN:Int
 tD:Int
 lead:Int
 hr:Hd
 runs:List Rn
 inum:Int
 pnum:Int
def RcV.row (r:RcV):List Value:=[.string r.item,.string r.plant,.int .i64 r.fr,.int .i64 r.to,.slice r.hc.a r.cs.length r.hc.c,.slice r.hi.a r.inn.length r.hi.c,.slice r.ho.a r.out.length r.ho.c,.int .i64 r.rwN,.int .i64 r.rwD,.int .i64 r.yN,.int .i64 r.yD,.int .i64 r.tN,.int .i64 r.tD,.int .i64 r.lead,.slice r.hr.a r.runs.length r.hr.c,.int .i64 r.inum,.int .i64 r.pnum]
structure SrcV where
 units:List Un
 items:List It
 plants:List ByteArray
 machines:List Mc
 options:List OpV
 forbids:List FbV
 recipes:List RcV
 swaps:List Sw
abbrev srcV (vU vI vP vM vO vF vR vS:Value):Value:=.agg #[vU,vI,vP,vM,vO,vF,vR,vS]
section
variable (G:Nat→Prop) (h:Array Obj)
def OpV.ok (o:OpV):Prop:=RoF G h (o.hd.v o.ch.length) 1 (rwsB o.ch)
def FbV.ok (o:FbV):Prop:=RoF G h (o.hd.v o.cs.length) 4 (rws Cd.row o.cs)
structure RcV.ok (r:RcV):Prop where
 c:RoF G h (r.hc.v r.cs.length) 4 (rws Cd.row r.cs)
 i:RoF G h (r.hi.v r.inn.length) 7 (rws Am.row r.inn)
 o:RoF G h (r.ho.v r.out.length) 7 (rws Am.row r.out)
 rn:RoF G h (r.hr.v r.runs.length) 3 (rws Rn.row r.runs)
structure SrcV.sub (s:SrcV):Prop where
 o:∀o∈s.options,o.ok G h
 f:∀o∈s.forbids,o.ok G h
 r:∀o∈s.recipes,o.ok G h
end
section
variable {G G':Nat→Prop} {h h':Array Obj}
theorem OpV.ok.up {o:OpV} (H:o.ok G h) (U:Up G h G' h'):o.ok G' h':=RoF.up U H
theorem FbV.ok.up {o:FbV} (H:o.ok G h) (U:Up G h G' h'):o.ok G' h':=RoF.up U H
theorem RcV.ok.up {o:RcV} (H:o.ok G h) (U:Up G h G' h'):o.ok G' h':=⟨RoF.up U H.c,RoF.up U H.i,RoF.up U H.o,RoF.up U H.rn⟩
theorem SrcV.sub.up {s:SrcV} (H:s.sub G h) (U:Up G h G' h'):s.sub G' h':=⟨fun o ho=>(H.o o ho).up U,fun o ho=>(H.f o ho).up U,fun o ho=>(H.r o ho).up U⟩
structure Top (h:Array Obj) (vU vI vP vM vO vF vR vS:Value) (s:SrcV):Prop where
 U:Ro h vU 8 (rowsU s.units)
 I:Ro h vI 6 (rws It.row s.items)
 P:Ro h vP 1 (rwsB s.plants)
 M:Ro h vM 4 (rws Mc.row s.machines)
 O:Ro h vO 2 (rws OpV.row s.options)
 F:Ro h vF 1 (rws FbV.row s.forbids)
 R:Ro h vR 17 (rws RcV.row s.recipes)
 S:Ro h vS 4 (rws Sw.row s.swaps)
 below:s.sub (fun k=>k<h.size) h
theorem RcV.ok.tok (r:RcV):TOk (fun F h=>r.ok F h):=⟨fun _ _ _ hs H=>H.up ⟨hs,fun _ _=>rfl⟩,fun _ _ _ H K=>H.up ⟨fun _ x=>x,K.same⟩⟩
theorem RoF.tok (v:Value) (sz:Nat) (rows:List (List Value)):TOk (fun F h=>RoF F h v sz rows):=⟨fun _ _ _ hs H=>RoF.up ⟨hs,fun _ _=>rfl⟩ H,fun _ _ _ H K=>RoF.up ⟨fun _ x=>x,K.same⟩ H⟩
end
abbrev i64 (n:Int):Prop:= -9223372036854775808≤n∧n≤9223372036854775807
def Cd.wf (c:Cd):Prop:=i64 c.on∧i64 c.cn
def Am.wf (a:Am):Prop:=i64 a.n∧i64 a.d∧i64 a.un∧i64 a.inn
def Rn.wf (r:Rn):Prop:=i64 r.slots∧i64 r.mn
def Sw.wf (r:Sw):Prop:=i64 r.an∧i64 r.bn
def It.wf (i:It):Prop:=i64 i.mn∧i64 i.md∧i64 i.shelf∧i64 i.un
def Mc.wf (i:Mc):Prop:=i64 i.clean∧i64 i.pn
structure RcV.wf (r:RcV):Prop where
 c:∀c∈r.cs,c.wf
 i:∀c∈r.inn,c.wf
 o:∀c∈r.out,c.wf
 rn:∀c∈r.runs,c.wf
 n:i64 r.fr∧i64 r.to∧i64 r.rwN∧i64 r.rwD∧i64 r.yN∧i64 r.yD∧i64 r.tN∧i64 r.tD∧i64 r.lead∧i64 r.inum∧i64 r.pnum
structure SrcV.wf (s:SrcV):Prop where
 U:∀u∈s.units,i64 u.n∧i64 u.d
 I:∀u∈s.items,u.wf
 M:∀u∈s.machines,u.wf
 F:∀u∈s.forbids,∀c∈u.cs,c.wf
 R:∀u∈s.recipes,u.wf
 S:∀u∈s.swaps,u.wf
end Go.SrcM

namespace Go.SrcM
open Go Go.Fw Go.RatM
def noSrc:SrcV:=⟨[],[],[],[],[],[],[],[]⟩
def OpV.bare (o:OpV):OpV:={o with hd:=⟨none,0⟩}
def FbV.bare (o:FbV):FbV:={o with hd:=⟨none,0⟩}
def RcV.bare (r:RcV):RcV:={r with hc:=⟨none,0⟩,hi:=⟨none,0⟩,ho:=⟨none,0⟩,hr:=⟨none,0⟩}
def SrcV.bare (s:SrcV):SrcV:={s with options:=s.options.map OpV.bare,forbids:=s.forbids.map FbV.bare,recipes:=s.recipes.map RcV.bare}
theorem take_snoc {α:Type} {l:List α} {k:Nat} (hk:k<l.length):l.take (k+1)=l.take k++[l[k]]:=by rw [List.take_add_one,List.getElem?_eq_getElem hk];rfl
end Go.SrcM

namespace Go.SrcM
open Go Go.Fw Go.RatM
structure TopF (G:Nat→Prop) (h:Array Obj) (vU vI vP vM vO vF vR vS:Value) (s:SrcV):Prop where
 U:RoF G h vU 8 (rowsU s.units)
 I:RoF G h vI 6 (rws It.row s.items)
 P:RoF G h vP 1 (rwsB s.plants)
 M:RoF G h vM 4 (rws Mc.row s.machines)
 O:RoF G h vO 2 (rws OpV.row s.options)
 F:RoF G h vF 1 (rws FbV.row s.forbids)
 R:RoF G h vR 17 (rws RcV.row s.recipes)
 S:RoF G h vS 4 (rws Sw.row s.swaps)
 below:s.sub G h
theorem TopF.up {G G':Nat→Prop} {h h':Array Obj} {vU vI vP vM vO vF vR vS:Value} {s:SrcV} (H:TopF G h vU vI vP vM vO vF vR vS s) (U:Up G h G' h'):TopF G' h' vU vI vP vM vO vF vR vS s:=
 ⟨RoF.up U H.U,RoF.up U H.I,RoF.up U H.P,RoF.up U H.M,RoF.up U H.O,RoF.up U H.F,RoF.up U H.R,RoF.up U H.S,H.below.up U⟩
structure Lens (s:SrcV):Prop where
 U:s.units.length≤1000000
 I:s.items.length≤1000000
 P:s.plants.length≤1000000
 M:s.machines.length≤1000000
 O:s.options.length≤1000000
 F:s.forbids.length≤1000000
 R:s.recipes.length≤1000000
 S:s.swaps.length≤1000000
 o:∀a∈s.options,a.ch.length≤1000000
 f:∀a∈s.forbids,a.cs.length≤1000000
 r:∀a∈s.recipes,a.cs.length≤1000000∧a.inn.length≤1000000∧a.out.length≤1000000∧a.runs.length≤1000000
theorem TopF.tok (vU vI vP vM vO vF vR vS:Value) (s:SrcV):TOk (fun F h=>TopF F h vU vI vP vM vO vF vR vS s):=⟨fun _ _ _ hs H=>H.up ⟨hs,fun _ _=>rfl⟩,fun _ _ _ H K=>H.up ⟨fun _ x=>x,K.same⟩⟩
end Go.SrcM
namespace Go.Proofs.YtgbeechjghajcaaGreatDoor
open Go Go.Fw Go.NatM Go.RatM Go.SrcM
theorem RoF.sli {G:Nat→Prop} {h:Array Obj} {v:Value} {sz n:Nat} {rows:List (List Value)} (H:RoF G h v sz rows) (e:rows.length=n):∃a c,v=.slice a n c:=by
 obtain ⟨_,_,a,c,rfl,_⟩:=H
 exact ⟨a,c,by rw [e]⟩
theorem RoF.nil (G:Nat→Prop) (h:Array Obj) (sz:Nat):RoF G h (.slice none 0 0) sz []:=⟨fun _ h=>absurd h List.not_mem_nil,⟨Nat.zero_le _,Nat.le_refl _⟩,none,0,rfl,.inl rfl⟩
theorem TopF.none (G:Nat→Prop) (h:Array Obj):TopF G h (.slice none 0 0) (.slice none 0 0) (.slice none 0 0) (.slice none 0 0) (.slice none 0 0) (.slice none 0 0) (.slice none 0 0) (.slice none 0 0) noSrc:=
 ⟨RoF.nil _ _ _,RoF.nil _ _ _,RoF.nil _ _ _,RoF.nil _ _ _,RoF.nil _ _ _,RoF.nil _ _ _,RoF.nil _ _ _,RoF.nil _ _ _,fun _ h=>absurd h List.not_mem_nil,fun _ h=>absurd h List.not_mem_nil,fun _ h=>absurd h List.not_mem_nil⟩
abbrev nilV:Value:=.slice none 0 0
abbrev zC:Fw.Blk:=.cells 32 [.v (.slice none 0 0),.v (.slice none 0 0),.v (.slice none 0 0),.v (.slice none 0 0),.v (.slice none 0 0),.v (.slice none 0 0),.v (.slice none 0 0),.v (.slice none 0 0)]
abbrev vC (vU vI vP vM vO vF vR vS:Value):Fw.Blk:=.cells 32 [.v vU,.v vI,.v vP,.v vM,.v vO,.v vF,.v vR,.v vS]
abbrev sC (aU:Option Addr) (cU:Nat) (aI:Option Addr) (cI:Nat) (aP:Option Addr) (cP:Nat) (aM:Option Addr) (cM:Nat) (aO:Option Addr) (cO:Nat) (aF:Option Addr) (cF:Nat) (aR:Option Addr) (cR:Nat) (aS:Option Addr) (cS:Nat) (s:SrcV):Fw.Blk:=.cells 32 [.v (.slice aU s.units.length cU),.v (.slice aI s.items.length cI),.v (.slice aP s.plants.length cP),.v (.slice aM s.machines.length cM),.v (.slice aO s.options.length cO),.v (.slice aF s.forbids.length cF),.v (.slice aR s.recipes.length cR),.v (.slice aS s.swaps.length cS)]
abbrev srcA (vU vI vP vM vO vF vR vS:Value):SV:=.agg [.v vU,.v vI,.v vP,.v vM,.v vO,.v vF,.v vR,.v vS]
abbrev TopT (vU vI vP vM vO vF vR vS:Value) (s:SrcV) (F:Nat→Prop) (h:Array Obj):Prop:=TopF F h vU vI vP vM vO vF vR vS s
theorem topShapes {G:Nat→Prop} {h:Array Obj} {vU vI vP vM vO vF vR vS:Value} {s:SrcV} (H:TopF G h vU vI vP vM vO vF vR vS s):∃aU cU aI cI aP cP aM cM aO cO aF cF aR cR aS cS,vU=.slice aU s.units.length cU∧vI=.slice aI s.items.length cI∧vP=.slice aP s.plants.length cP∧vM=.slice aM s.machines.length cM∧vO=.slice aO s.options.length cO∧vF=.slice aF s.forbids.length cF∧vR=.slice aR s.recipes.length cR∧vS=.slice aS s.swaps.length cS:=by
 obtain ⟨aU,cU,e1⟩:=RoF.sli H.U (rowsU_len s.units)
 obtain ⟨aI,cI,e2⟩:=RoF.sli H.I (rws_len It.row s.items)
 obtain ⟨aP,cP,e3⟩:=RoF.sli H.P (rwsB_len s.plants)
 obtain ⟨aM,cM,e4⟩:=RoF.sli H.M (rws_len Mc.row s.machines)
 obtain ⟨aO,cO,e5⟩:=RoF.sli H.O (rws_len OpV.row s.options)
 obtain ⟨aF,cF,e6⟩:=RoF.sli H.F (rws_len FbV.row s.forbids)
 obtain ⟨aR,cR,e7⟩:=RoF.sli H.R (rws_len RcV.row s.recipes)
 obtain ⟨aS,cS,e8⟩:=RoF.sli H.S (rws_len Sw.row s.swaps)
 exact ⟨aU,cU,aI,cI,aP,cP,aM,cM,aO,cO,aF,cF,aR,cR,aS,cS,e1,e2,e3,e4,e5,e6,e7,e8⟩
end Go.Proofs.YtgbeechjghajcaaGreatDoor

namespace Go.SynM
open Go Go.Fw Go.RatM Go.SrcM
open Go.Proofs.YtgbeechjghajcaaGreatDoor (Tok)
inductive Rs (α:Type) where
 |ok (a:α) (r:List Tok)
 |bad (r:List Tok) (e:Nat)
abbrev P (α:Type):=List Tok→Rs α
def bnd {α β:Type} (p:P α) (f:α→P β):P β:=fun r=>match p r with
 | .ok a r'=>f a r'
 | .bad r' e=>.bad r' e
def pur {α:Type} (a:α):P α:=fun r=>.ok a r
def failP {α:Type} (e:Nat):P α:=fun r=>.bad r e
theorem bnd_ok {α β:Type} {p:P α} {f:α→P β} {r r':List Tok} {a:α} (h:p r=.ok a r'):bnd p f r=f a r':=by unfold bnd;rw [h]
theorem bnd_bad {α β:Type} {p:P α} {f:α→P β} {r r':List Tok} {e:Nat} (h:p r=.bad r' e):bnd p f r=.bad r' e:=by unfold bnd;rw [h]
def isT (k:Int) (t:ByteArray):List Tok→Bool
 | []=>false
 |x::_=>decide (x.kind=k∧x.text=t)
def skip (k:Int) (t:ByteArray):P Unit:=fun r=>if isT k t r then .ok () r.tail else .bad r 100
def nameP:P ByteArray
 | []=>.bad [] 100
 |x::r=>if x.kind=1 then .ok x.text r else .bad (x::r) 100
def numP:P Int
 | []=>.bad [] 100
 |x::r=>if x.kind=2∧x.n≤1048576 then .ok x.n r else .bad (x::r) 100
abbrev B (l:List UInt8):ByteArray:=⟨l.toArray⟩
abbrev wd (t:List UInt8):P Unit:=skip 1 (B t)
abbrev sg (c:UInt8):P Unit:=skip 3 (B [c])
def fracP:P (Int×Int):=bnd numP fun n=>bnd (sg 47) fun _=>bnd numP fun d=>pur (n,d)
def manyP {α:Type} (k:Int) (t:ByteArray) (p:P α):Nat→P (List α)
 |0=>fun r=>if isT k t r then .bad r 2 else .ok [] r
 |m+1=>fun r=>if isT k t r then bnd p (fun x=>bnd (manyP k t p m) fun l=>pur (x::l)) r.tail else .ok [] r
def sepP {α:Type} (p:P α) (most:Nat):P (List α):=bnd p fun x=>bnd (manyP 3 (B [44]) p (most - 1)) fun l=>pur (x::l)
def optP {α:Type} (k:Int) (t:ByteArray) (a:α) (p:P α):P α:=fun r=>if isT k t r then p r.tail else .ok a r
abbrev wUnit:List UInt8:=[117,110,105,116]
abbrev wItem:List UInt8:=[105,116,101,109]
abbrev wPlant:List UInt8:=[112,108,97,110,116]
abbrev wMachine:List UInt8:=[109,97,99,104,105,110,101]
abbrev wOption:List UInt8:=[111,112,116,105,111,110]
abbrev wForbid:List UInt8:=[102,111,114,98,105,100]
abbrev wMake:List UInt8:=[109,97,107,101]
abbrev wSwap:List UInt8:=[115,119,97,112]
abbrev wIn:List UInt8:=[105,110]
abbrev wMass:List UInt8:=[109,97,115,115]
abbrev wKeeps:List UInt8:=[107,101,101,112,115]
abbrev wAt:List UInt8:=[97,116]
abbrev wClean:List UInt8:=[99,108,101,97,110]
abbrev wFor:List UInt8:=[102,111,114]
abbrev wBack:List UInt8:=[98,97,99,107]
abbrev wFrom:List UInt8:=[102,114,111,109]
abbrev wTo:List UInt8:=[116,111]
abbrev wIf:List UInt8:=[105,102]
abbrev wOut:List UInt8:=[111,117,116]
abbrev wRework:List UInt8:=[114,101,119,111,114,107]
abbrev wYield:List UInt8:=[121,105,101,108,100]
abbrev wWithin:List UInt8:=[119,105,116,104,105,110]
abbrev wLead:List UInt8:=[108,101,97,100]
abbrev wRun:List UInt8:=[114,117,110]
abbrev e0:ByteArray:=⟨#[]⟩
abbrev hd0:Hd:=⟨none,0⟩
def unitP:P Un:=bnd nameP fun nm=>bnd (optP 3 (B [61]) (0,0,e0) (bnd fracP fun q=>bnd nameP fun o=>pur (q.1,q.2,o))) fun x=>bnd (sg 59) fun _=>pur ⟨nm,x.2.2,x.1,x.2.1,0,zr⟩
def itemP:P It:=bnd nameP fun nm=>bnd (wd wIn) fun _=>bnd nameP fun u=>bnd (wd wMass) fun _=>bnd fracP fun q=>bnd (optP 1 (B wKeeps) 0 numP) fun s=>bnd (sg 59) fun _=>pur ⟨nm,u,q.1,q.2,s,0⟩
def plantP:P ByteArray:=bnd nameP fun nm=>bnd (sg 59) fun _=>pur nm
def machP:P Mc:=bnd nameP fun nm=>bnd (wd wAt) fun _=>bnd nameP fun p=>bnd (wd wClean) fun _=>bnd numP fun c=>bnd (sg 59) fun _=>pur ⟨nm,p,c,0⟩
def optnP:P OpV:=bnd nameP fun nm=>bnd (sg 123) fun _=>bnd (sepP nameP 4) fun l=>bnd (sg 125) fun _=>bnd (sg 59) fun _=>pur ⟨nm,hd0,l⟩
def condP:P Cd:=bnd nameP fun o=>bnd (sg 61) fun _=>bnd nameP fun c=>pur ⟨o,c,0,0⟩
def forbP:P FbV:=bnd (sepP condP 6) fun l=>bnd (sg 59) fun _=>pur ⟨hd0,l⟩
def swapP:P Sw:=bnd nameP fun a=>bnd (wd wFor) fun _=>bnd nameP fun b=>bnd (sg 59) fun _=>pur ⟨a,b,0,0⟩
def outP:P Am:=bnd fracP fun q=>bnd nameP fun u=>bnd nameP fun i=>bnd (sg 59) fun _=>pur ⟨q.1,q.2,u,i,false,0,0⟩
def inP:P Am:=bnd (optP 1 (B wBack) false (pur true)) fun b=>bnd outP fun a=>pur {a with back:=b}
def runP:P Rn:=bnd nameP fun m=>bnd numP fun n=>bnd (sg 59) fun _=>pur ⟨m,n,0⟩
def recP:P RcV:=bnd nameP fun it=>bnd (wd wAt) fun _=>bnd nameP fun pl=>bnd (wd wFrom) fun _=>bnd numP fun fr=>bnd (wd wTo) fun _=>bnd numP fun to=>
 bnd (optP 1 (B wIf) [] (sepP condP 6)) fun cs=>bnd (sg 123) fun _=>bnd (manyP 1 (B wIn) inP 8) fun ins=>bnd (manyP 1 (B wOut) outP 8) fun outs=>
 bnd (wd wRework) fun _=>bnd fracP fun rw=>bnd (sg 59) fun _=>bnd (wd wYield) fun _=>bnd fracP fun y=>bnd (wd wWithin) fun _=>bnd fracP fun t=>
 bnd (sg 59) fun _=>bnd (wd wLead) fun _=>bnd numP fun ld=>bnd (sg 59) fun _=>bnd (manyP 1 (B wRun) runP 8) fun runs=>bnd (sg 125) fun _=>
 pur ⟨it,pl,fr,to,hd0,cs,hd0,ins,hd0,outs,rw.1,rw.2,y.1,y.2,t.1,t.2,ld,hd0,runs,0,0⟩
def brP {α:Type} (t:ByteArray) (n most:Nat) (p q:P α):P α:=fun r=>if isT 1 t r then (if most≤n then .bad r 2 else p r.tail) else q r
def defP (s:SrcV):P SrcV:=
 brP (B wUnit) s.units.length 32 (bnd unitP fun x=>pur {s with units:=s.units++[x]}) <|
 brP (B wItem) s.items.length 32 (bnd itemP fun x=>pur {s with items:=s.items++[x]}) <|
 brP (B wPlant) s.plants.length 8 (bnd plantP fun x=>pur {s with plants:=s.plants++[x]}) <|
 brP (B wMachine) s.machines.length 16 (bnd machP fun x=>pur {s with machines:=s.machines++[x]}) <|
 brP (B wOption) s.options.length 6 (bnd optnP fun x=>pur {s with options:=s.options++[x]}) <|
 brP (B wForbid) s.forbids.length 16 (bnd forbP fun x=>pur {s with forbids:=s.forbids++[x]}) <|
 brP (B wMake) s.recipes.length 64 (bnd recP fun x=>pur {s with recipes:=s.recipes++[x]}) <|
 brP (B wSwap) s.swaps.length 32 (bnd swapP fun x=>pur {s with swaps:=s.swaps++[x]}) <|
 failP 100
def defsP:Nat→SrcV→P SrcV
 |0,s=>pur s
 |n+1,s=>fun r=>if r=[] then .ok s [] else bnd (defP s) (defsP n) r
def noS:SrcV:=⟨[],[],[],[],[],[],[],[]⟩
def readP (r:List Tok):Rs SrcV:=defsP (r.length+1) noS r
def place (n:Nat) (e:Nat):List Tok→Int×Nat
 | []=>(n,100)
 |t::_=>(t.pos,e)
end Go.SynM

namespace Go.SynM
open Go Go.Fw Go.RatM Go.SrcM
open Go.Proofs.YtgbeechjghajcaaGreatDoor (Tok)
structure Good {α:Type} (p:P α):Prop where
 suf:∀r a r',p r=.ok a r'→r' <:+ r
 sufB:∀r r' e,p r=.bad r' e→r' <:+ r
 loc:∀A R a,p (A++R)=.ok a R → ∀C,(C.head? = R.head? ∨ C=[])→p (A++C)=.ok a C
 bad:∀A R e,p (A++R)=.bad R e→(∃e',p A=.bad [] e') ∨ ∃a,p A=.ok a []
def Closed {α:Type} (p:P α):Prop:=∀A R a,p (A++R)=.ok a R → ∀C,p (A++C)=.ok a C
def Eats {α:Type} (p:P α):Prop:=∀r a r',p r=.ok a r'→r'.length<r.length
theorem isT_cons {k:Int} {t:ByteArray} {r:List Tok} (h:isT k t r=true):∃x r',r=x::r':=by
 cases r with
 |nil=>cases h
 |cons x r=>exact ⟨x,r,rfl⟩
theorem isT_head {k:Int} {t:ByteArray} {r r':List Tok} (h:r.head? = r'.head?):isT k t r=isT k t r':=by
 cases r with
 |nil=>
  cases r' with
  |nil=>rfl
  |cons y s=>cases h
 |cons x s=>
  cases r' with
  |nil=>cases h
  |cons y t=>cases h;rfl
theorem isT_no {k:Int} {t:ByteArray} {r c:List Tok} (h:isT k t r=false) (hc:c.head? = r.head? ∨ c=[]):isT k t c=false:=by
 rcases hc with hc|rfl
 ·rw [isT_head hc];exact h
 rfl
theorem suf_len {α:Type} {a b:List α} (h:a <:+ b):a.length≤b.length:=h.length_le
theorem suf_nil {r:List Tok} (h:r <:+ []):r=[]:=List.suffix_nil.1 h
theorem split_suf {A R r1:List Tok} (h1:r1 <:+ A++R) (h2:R <:+ r1):∃A1 A2,A=A1++A2∧r1=A2++R:=by
 obtain ⟨X,hX⟩:=h1
 obtain ⟨Y,rfl⟩:=h2
 rw [←List.append_assoc] at hX
 exact ⟨X,Y,(List.append_cancel_right hX).symm,rfl⟩
theorem good_pur {α:Type} (a:α):Good (pur a) where
 suf:=fun r b r' h=>by cases h;exact List.suffix_refl _
 sufB:=fun r r' e h=>by cases h
 loc:=fun A R b h C hc=>by
  have h:(Rs.ok a (A++R):Rs α)=.ok b R:=h
  injection h with h1 h2
  have:A=[]:=by
   have:=congrArg List.length h2
   rw [List.length_append] at this
   exact List.eq_nil_of_length_eq_zero (by omega)
  subst this;subst h1;rfl
 bad:=fun A R e h=>by cases h
theorem closed_pur {α:Type} (a:α):Closed (pur a):=fun A R b h C=>by
 have h:(Rs.ok a (A++R):Rs α)=.ok b R:=h
 injection h with h1 h2
 have:A=[]:=by
  have:=congrArg List.length h2
  rw [List.length_append] at this
  exact List.eq_nil_of_length_eq_zero (by omega)
 subst this;subst h1;rfl
theorem good_one {α:Type} {p:P α} (f:Tok→Option α) (e:Nat) (h0:p []=.bad [] e) (h1:∀x r,p (x::r)=match f x with|some a=>.ok a r|none=>.bad (x::r) e):Good p∧Closed p∧Eats p:=by
 have hc:Closed p:=fun A R a h C=>by
  cases A with
  |nil=>
   cases R with
   |nil=>rw [List.nil_append,h0] at h;cases h
   |cons x r=>
    rw [List.nil_append,h1] at h
    split at h
    ·injection h with _ h2
     have:=congrArg List.length h2
     simp at this
    cases h
  |cons x A=>
   rw [List.cons_append,h1] at h ⊢
   split at h
   ·rename_i b hb
    injection h with h2 h3
    have:A=[]:=by
     have:=congrArg List.length h3
     rw [List.length_append] at this
     exact List.eq_nil_of_length_eq_zero (by omega)
    subst this;subst h2
    rfl
   cases h
 refine ⟨⟨fun r a r' h=>?_,fun r r' e h=>?_,fun A R a h C _=>hc A R a h C,fun A R e' h=>?_⟩,hc,fun r a r' h=>?_⟩
 ·cases r with
  |nil=>rw [h0] at h;cases h
  |cons x r=>
   rw [h1] at h
   split at h
   ·cases h;exact List.suffix_cons _ _
   cases h
 ·cases r with
  |nil=>rw [h0] at h;cases h;exact List.suffix_refl _
  |cons x r=>
   rw [h1] at h
   split at h
   ·cases h
   cases h;exact List.suffix_refl _
 ·cases A with
  |nil=>exact .inl ⟨e,h0⟩
  |cons x A=>
   rw [List.cons_append,h1] at h
   split at h
   ·cases h
   injection h with h2 _
   have:=congrArg List.length h2
   simp at this
   omega
 cases r with
 |nil=>rw [h0] at h;cases h
 |cons x r=>
  rw [h1] at h
  split at h
  ·cases h;simp
  cases h
theorem name_one:Good nameP∧Closed nameP∧Eats nameP:=good_one (fun x=>if x.kind=1 then some x.text else none) 100 rfl fun x r=>by
 simp only [nameP]
 split<;>rfl
theorem num_one:Good numP∧Closed numP∧Eats numP:=good_one (fun x=>if x.kind=2∧x.n≤1048576 then some x.n else none) 100 rfl fun x r=>by
 simp only [numP]
 split<;>rfl
theorem skip_one (k:Int) (t:ByteArray):Good (skip k t)∧Closed (skip k t)∧Eats (skip k t):=good_one (fun x=>if x.kind=k∧x.text=t then some () else none) 100 rfl fun x r=>by
 simp only [skip,isT,decide_eq_true_eq]
 split<;>rfl
section
variable {α β:Type} {p:P α} {f:α→P β}
theorem bnd_cases {r:List Tok} {s:Rs β} (h:bnd p f r=s):(∃a r1,p r=.ok a r1∧f a r1=s) ∨ ∃r1 e,p r=.bad r1 e∧s=.bad r1 e:=by
 unfold bnd at h
 split at h
 ·rename_i a r1 h1
  exact .inl ⟨a,r1,h1,h⟩
 rename_i r1 e h1
 exact .inr ⟨r1,e,h1,h.symm⟩
theorem good_bnd (hp:Good p) (hf:∀a,Good (f a)):Good (bnd p f) where
 suf:=fun r b r' h=>by
  rcases bnd_cases h with ⟨a,r1,h1,h2⟩|⟨r1,e,_,h2⟩
  ·exact ((hf a).suf _ _ _ h2).trans (hp.suf _ _ _ h1)
  cases h2
 sufB:=fun r r' e h=>by
  rcases bnd_cases h with ⟨a,r1,h1,h2⟩|⟨r1,e,h1,h2⟩
  ·exact ((hf a).sufB _ _ _ h2).trans (hp.suf _ _ _ h1)
  cases h2;exact hp.sufB _ _ _ h1
 loc:=fun A R b h C hc=>by
  rcases bnd_cases h with ⟨a,r1,h1,h2⟩|⟨r1,e,_,h2⟩
  ·obtain ⟨A1,A2,rfl,rfl⟩:=split_suf (hp.suf _ _ _ h1) ((hf a).suf _ _ _ h2)
   rw [List.append_assoc] at h1 ⊢
   have h3:p (A1++(A2++C))=.ok a (A2++C):=hp.loc A1 _ a h1 _ (by
    cases A2 with
    |nil=>exact hc
    |cons x A2=>exact .inl rfl)
   rw [bnd_ok h3]
   exact (hf a).loc A2 R b h2 C hc
  cases h2
 bad:=fun A R e h=>by
  rcases bnd_cases h with ⟨a,r1,h1,h2⟩|⟨r1,e,h1,h2⟩
  ·obtain ⟨A1,A2,rfl,rfl⟩:=split_suf (hp.suf _ _ _ h1) ((hf a).sufB _ _ _ h2)
   rw [List.append_assoc] at h1
   have h3:p (A1++A2)=.ok a A2:=hp.loc A1 _ a h1 _ (by
    cases A2 with
    |nil=>exact .inr rfl
    |cons x A2=>exact .inl rfl)
   rw [bnd_ok h3]
   exact (hf a).bad A2 R e h2
  cases h2
  rcases hp.bad A R e h1 with ⟨e',h3⟩|⟨a,h3⟩
  ·exact .inl ⟨e',bnd_bad h3⟩
  rw [bnd_ok h3]
  cases h4:f a [] with
  |ok b r=>
   rw [suf_nil ((hf a).suf _ _ _ h4)]
   exact .inr ⟨b,rfl⟩
  |bad r e'=>
   rw [suf_nil ((hf a).sufB _ _ _ h4)]
   exact .inl ⟨e',rfl⟩
theorem eats_left (hp:Eats p) (hf:∀a,Good (f a)):Eats (bnd p f):=fun r b r' h=>by
 rcases bnd_cases h with ⟨a,r1,h1,h2⟩|⟨r1,e,_,h2⟩
 ·have:=hp _ _ _ h1
  have:=suf_len ((hf a).suf _ _ _ h2)
  omega
 cases h2
theorem eats_right (hp:Good p) (hf:∀a,Eats (f a)):Eats (bnd p f):=fun r b r' h=>by
 rcases bnd_cases h with ⟨a,r1,h1,h2⟩|⟨r1,e,_,h2⟩
 ·have:=hf a _ _ _ h2
  have:=suf_len (hp.suf _ _ _ h1)
  omega
 cases h2
theorem closed_left (hp:Good p) (hf:∀a,Good (f a)) (hc:Closed p) (hd:∀a,Closed (f a)):Closed (bnd p f):=fun A R b h C=>by
 rcases bnd_cases h with ⟨a,r1,h1,h2⟩|⟨r1,e,_,h2⟩
 ·obtain ⟨A1,A2,rfl,rfl⟩:=split_suf (hp.suf _ _ _ h1) ((hf a).suf _ _ _ h2)
  rw [List.append_assoc] at h1 ⊢
  rw [bnd_ok (hc A1 _ a h1 (A2++C))]
  exact hd a A2 R b h2 C
 cases h2
theorem closed_right (hp:Good p) (hf:∀a,Good (f a)) (he:∀a,Eats (f a)) (hd:∀a,Closed (f a)):Closed (bnd p f):=fun A R b h C=>by
 rcases bnd_cases h with ⟨a,r1,h1,h2⟩|⟨r1,e,_,h2⟩
 ·obtain ⟨A1,A2,rfl,rfl⟩:=split_suf (hp.suf _ _ _ h1) ((hf a).suf _ _ _ h2)
  rw [List.append_assoc] at h1 ⊢
  have:=he a _ _ _ h2
  rw [List.length_append] at this
  have h3:p (A1++(A2++C))=.ok a (A2++C):=hp.loc A1 _ a h1 _ (by
   cases A2 with
   |nil=>simp at this
   |cons x A2=>exact .inl rfl)
  rw [bnd_ok h3]
  exact hd a A2 R b h2 C
 cases h2
end
theorem good_opt {α:Type} {k:Int} {t:ByteArray} {a:α} {p:P α} (hp:Good p):Good (optP k t a p) where
 suf:=fun r b r' h=>by
  unfold optP at h
  split at h
  ·rename_i ht
   obtain ⟨x,r,rfl⟩:=isT_cons ht
   exact (hp.suf _ _ _ h).trans (List.suffix_cons x r)
  cases h;exact List.suffix_refl _
 sufB:=fun r r' e h=>by
  unfold optP at h
  split at h
  ·rename_i ht
   obtain ⟨x,r,rfl⟩:=isT_cons ht
   exact (hp.sufB _ _ _ h).trans (List.suffix_cons x r)
  cases h
 loc:=fun A R b h C hc=>by
  unfold optP at h ⊢
  split at h
  ·rename_i ht
   cases A with
   |nil=>
    obtain ⟨x,r,rfl⟩:=isT_cons ht
    have:=suf_len (hp.suf _ _ _ h)
    simp at this
    omega
   |cons x A=>
    rw [if_pos (show isT k t (x::A++C)=true from ht)]
    exact hp.loc A R b h C hc
  rename_i ht
  injection h with h1 h2
  have:A=[]:=by
   have:=congrArg List.length h2
   rw [List.length_append] at this
   exact List.eq_nil_of_length_eq_zero (by omega)
  subst this;subst h1
  rw [if_neg (by rw [List.nil_append,isT_no (Bool.eq_false_iff.2 ht) hc];exact Bool.false_ne_true)]
  rfl
 bad:=fun A R e h=>by
  unfold optP at h ⊢
  split at h
  ·rename_i ht
   cases A with
   |nil=>
    obtain ⟨x,r,rfl⟩:=isT_cons ht
    have:=suf_len (hp.sufB _ _ _ h)
    simp at this
    omega
   |cons x A=>
    rw [if_pos (show isT k t (x::A)=true from ht)]
    exact hp.bad A R e h
  cases h
theorem many_succ {α:Type} {k:Int} {t:ByteArray} {p:P α} {m:Nat}:manyP k t p (m+1)=optP k t [] (bnd p fun x=>bnd (manyP k t p m) fun l=>pur (x::l)):=rfl
theorem good_many {α:Type} {k:Int} {t:ByteArray} {p:P α} (hp:Good p):∀m,Good (manyP k t p m)
 |0=>{
  suf:=fun r b r' h=>by
   simp only [manyP] at h
   split at h
   ·cases h
   cases h;exact List.suffix_refl _
  sufB:=fun r r' e h=>by
   simp only [manyP] at h
   split at h
   ·cases h;exact List.suffix_refl _
   cases h
  loc:=fun A R b h C hc=>by
   simp only [manyP] at h ⊢
   split at h
   ·cases h
   rename_i ht
   injection h with h1 h2
   have:A=[]:=by
    have:=congrArg List.length h2
    rw [List.length_append] at this
    exact List.eq_nil_of_length_eq_zero (by omega)
   subst this;subst h1
   rw [if_neg (by rw [List.nil_append,isT_no (Bool.eq_false_iff.2 ht) hc];exact Bool.false_ne_true)]
   rfl
  bad:=fun A R e h=>by
   simp only [manyP] at h ⊢
   split at h
   ·injection h with h1 _
    have:A=[]:=by
     have:=congrArg List.length h1
     rw [List.length_append] at this
     exact List.eq_nil_of_length_eq_zero (by omega)
    subst this
    exact .inr ⟨[],rfl⟩
   cases h}
 |m+1=>good_opt (good_bnd hp fun x=>good_bnd (good_many hp m) fun l=>good_pur _)
end Go.SynM

namespace Go.SynM
open Go Go.Fw Go.RatM Go.SrcM
open Go.Proofs.YtgbeechjghajcaaGreatDoor (Tok)
structure Gce {α:Type} (p:P α):Prop where
 g:Good p
 c:Closed p
 e:Eats p
section
variable {α β:Type} {p:P α} {f:α→P β}
theorem name_g:Gce nameP:=⟨name_one.1,name_one.2.1,name_one.2.2⟩
theorem num_g:Gce numP:=⟨num_one.1,num_one.2.1,num_one.2.2⟩
theorem skip_g (k:Int) (t:ByteArray):Gce (skip k t):=⟨(skip_one k t).1,(skip_one k t).2.1,(skip_one k t).2.2⟩
theorem gce_bnd (hp:Good p) (hf:∀a,Gce (f a)):Gce (bnd p f):=⟨good_bnd hp fun a=>(hf a).g,closed_right hp (fun a=>(hf a).g) (fun a=>(hf a).e) fun a=>(hf a).c,eats_right hp fun a=>(hf a).e⟩
theorem gce_end {g:α→β} (hp:Gce p):Gce (bnd p fun a=>pur (g a)):=⟨good_bnd hp.g fun _=>good_pur _,closed_left hp.g (fun _=>good_pur _) hp.c fun _=>closed_pur _,eats_left hp.e fun _=>good_pur _⟩
end
theorem frac_g:Gce fracP:=gce_bnd num_g.g fun _=>gce_bnd (skip_g _ _).g fun _=>gce_end num_g
theorem good_sep {α:Type} {p:P α} (hp:Good p) (m:Nat):Good (sepP p m):=good_bnd hp fun _=>good_bnd (good_many hp _) fun _=>good_pur _
theorem unit_g:Gce unitP:=gce_bnd name_g.g fun _=>gce_bnd (good_opt (good_bnd frac_g.g fun _=>good_bnd name_g.g fun _=>good_pur _)) fun _=>gce_end (skip_g _ _)
theorem item_g:Gce itemP:=gce_bnd name_g.g fun _=>gce_bnd (skip_g _ _).g fun _=>gce_bnd name_g.g fun _=>gce_bnd (skip_g _ _).g fun _=>gce_bnd frac_g.g fun _=>gce_bnd (good_opt num_g.g) fun _=>gce_end (skip_g _ _)
theorem plant_g:Gce plantP:=gce_bnd name_g.g fun _=>gce_end (skip_g _ _)
theorem mach_g:Gce machP:=gce_bnd name_g.g fun _=>gce_bnd (skip_g _ _).g fun _=>gce_bnd name_g.g fun _=>gce_bnd (skip_g _ _).g fun _=>gce_bnd num_g.g fun _=>gce_end (skip_g _ _)
theorem optn_g:Gce optnP:=gce_bnd name_g.g fun _=>gce_bnd (skip_g _ _).g fun _=>gce_bnd (good_sep name_g.g 4) fun _=>gce_bnd (skip_g _ _).g fun _=>gce_end (skip_g _ _)
theorem cond_g:Gce condP:=gce_bnd name_g.g fun _=>gce_bnd (skip_g _ _).g fun _=>gce_end name_g
theorem forb_g:Gce forbP:=gce_bnd (good_sep cond_g.g 6) fun _=>gce_end (skip_g _ _)
theorem swap_g:Gce swapP:=gce_bnd name_g.g fun _=>gce_bnd (skip_g _ _).g fun _=>gce_bnd name_g.g fun _=>gce_end (skip_g _ _)
theorem out_g:Gce outP:=gce_bnd frac_g.g fun _=>gce_bnd name_g.g fun _=>gce_bnd name_g.g fun _=>gce_end (skip_g _ _)
theorem in_g:Gce inP:=gce_bnd (good_opt (good_pur _)) fun _=>gce_end out_g
theorem run_g:Gce runP:=gce_bnd name_g.g fun _=>gce_bnd num_g.g fun _=>gce_end (skip_g _ _)
theorem rec_g:Gce recP:=gce_bnd name_g.g fun _=>gce_bnd (skip_g _ _).g fun _=>gce_bnd name_g.g fun _=>gce_bnd (skip_g _ _).g fun _=>gce_bnd num_g.g fun _=>gce_bnd (skip_g _ _).g fun _=>gce_bnd num_g.g fun _=>
 gce_bnd (good_opt (good_sep cond_g.g 6)) fun _=>gce_bnd (skip_g _ _).g fun _=>gce_bnd (good_many in_g.g 8) fun _=>gce_bnd (good_many out_g.g 8) fun _=>
 gce_bnd (skip_g _ _).g fun _=>gce_bnd frac_g.g fun _=>gce_bnd (skip_g _ _).g fun _=>gce_bnd (skip_g _ _).g fun _=>gce_bnd frac_g.g fun _=>gce_bnd (skip_g _ _).g fun _=>gce_bnd frac_g.g fun _=>
 gce_bnd (skip_g _ _).g fun _=>gce_bnd (skip_g _ _).g fun _=>gce_bnd num_g.g fun _=>gce_bnd (skip_g _ _).g fun _=>gce_bnd (good_many run_g.g 8) fun _=>gce_end (skip_g _ _)
theorem gce_br {α:Type} {t:ByteArray} {n most:Nat} {p q:P α} (hp:Gce p) (hq:Gce q):Gce (brP t n most p q) where
 g:={
  suf:=fun r b r' h=>by
   unfold brP at h
   split at h
   ·rename_i ht
    obtain ⟨x,r,rfl⟩:=isT_cons ht
    split at h
    ·cases h
    exact (hp.g.suf _ _ _ h).trans (List.suffix_cons x r)
   exact hq.g.suf _ _ _ h
  sufB:=fun r r' e h=>by
   unfold brP at h
   split at h
   ·rename_i ht
    obtain ⟨x,r,rfl⟩:=isT_cons ht
    split at h
    ·cases h;exact List.suffix_refl _
    exact (hp.g.sufB _ _ _ h).trans (List.suffix_cons x r)
   exact hq.g.sufB _ _ _ h
  loc:=fun A R b h C hc=>by
   unfold brP at h ⊢
   split at h
   ·rename_i ht
    split at h
    ·cases h
    cases A with
    |nil=>
     obtain ⟨x,r,rfl⟩:=isT_cons ht
     have:=suf_len (hp.g.suf _ _ _ h)
     simp at this
     omega
    |cons x A=>
     rw [if_pos (show isT 1 t (x::A++C)=true from ht),if_neg (by assumption)]
     exact hp.g.loc A R b h C hc
   rename_i ht
   cases A with
   |nil=>
    have:=hq.e _ _ _ h
    simp at this
   |cons x A=>
    rw [if_neg (show ¬isT 1 t (x::A++C)=true from ht)]
    exact hq.g.loc (x::A) R b h C hc
  bad:=fun A R e h=>by
   unfold brP at h ⊢
   split at h
   ·rename_i ht
    cases A with
    |nil=>
     rw [if_neg (show ¬isT 1 t []=true from Bool.false_ne_true)]
     cases h4:q [] with
     |ok b r=>rw [suf_nil (hq.g.suf _ _ _ h4)];exact .inr ⟨b,rfl⟩
     |bad r e'=>rw [suf_nil (hq.g.sufB _ _ _ h4)];exact .inl ⟨e',rfl⟩
    |cons x A=>
     rw [if_pos (show isT 1 t (x::A)=true from ht)]
     split at h
     ·injection h with h1 _
      have:=congrArg List.length h1
      simp at this
      omega
     rw [if_neg (by assumption)]
     exact hp.g.bad A R e h
   rename_i ht
   cases A with
   |nil=>
    rw [if_neg (show ¬isT 1 t []=true from Bool.false_ne_true)]
    exact hq.g.bad [] R e h
   |cons x A=>
    rw [if_neg (show ¬isT 1 t (x::A)=true from ht)]
    exact hq.g.bad (x::A) R e h}
 c:=fun A R b h C=>by
  unfold brP at h ⊢
  split at h
  ·rename_i ht
   split at h
   ·cases h
   cases A with
   |nil=>
    obtain ⟨x,r,rfl⟩:=isT_cons ht
    have:=suf_len (hp.g.suf _ _ _ h)
    simp at this
    omega
   |cons x A=>
    rw [if_pos (show isT 1 t (x::A++C)=true from ht),if_neg (by assumption)]
    exact hp.c A R b h C
  rename_i ht
  cases A with
  |nil=>
   have:=hq.e _ _ _ h
   simp at this
  |cons x A=>
   rw [if_neg (show ¬isT 1 t (x::A++C)=true from ht)]
   exact hq.c (x::A) R b h C
 e:=fun r b r' h=>by
  unfold brP at h
  split at h
  ·rename_i ht
   obtain ⟨x,r,rfl⟩:=isT_cons ht
   split at h
   ·cases h
   have:=hp.e _ _ _ h
   simp only [List.tail_cons,List.length_cons] at this ⊢
   omega
  exact hq.e _ _ _ h
theorem fail_g {α:Type} (e:Nat):Gce (failP (α:=α) e) where
 g:={
  suf:=fun _ _ _ h=>by cases h
  sufB:=fun r r' e h=>by cases h;exact List.suffix_refl _
  loc:=fun _ _ _ h=>by cases h
  bad:=fun A R e' h=>by
   have h:(Rs.bad (A++R) e:Rs α)=.bad R e':=h
   injection h with h1 _
   have:A=[]:=by
    have:=congrArg List.length h1
    rw [List.length_append] at this
    exact List.eq_nil_of_length_eq_zero (by omega)
   subst this
   exact .inl ⟨_,rfl⟩}
 c:=fun _ _ _ h=>by cases h
 e:=fun _ _ _ h=>by cases h
theorem def_g (s:SrcV):Gce (defP s):=gce_br (gce_end unit_g)<|gce_br (gce_end item_g)<|gce_br (gce_end plant_g)<|gce_br (gce_end mach_g)<|gce_br (gce_end optn_g)<|gce_br (gce_end forb_g)<|gce_br (gce_end rec_g)<|gce_br (gce_end swap_g)<|fail_g 100
/-! all definitions -/
theorem defs_more:∀(n m:Nat) (s:SrcV) (r:List Tok),r.length<n→r.length<m→defsP n s r=defsP m s r
 |0,_,_,_,h,_=>absurd h (Nat.not_lt_zero _)
 |_+1,0,_,_,_,h=>absurd h (Nat.not_lt_zero _)
 |n+1,m+1,s,r,hn,hm=>by
  simp only [defsP]
  split
  ·rfl
  cases hd:defP s r with
  |ok t r1=>
   rw [bnd_ok hd,bnd_ok hd]
   have:=(def_g s).e _ _ _ hd
   exact defs_more n m t r1 (by omega) (by omega)
  |bad r1 e=>rw [bnd_bad hd,bnd_bad hd]
theorem defs_end:∀(n:Nat) (s:SrcV) (r:List Tok),r.length<n → ∀t r',defsP n s r=.ok t r'→r'=[]
 |0,_,_,h,_,_,_=>absurd h (Nat.not_lt_zero _)
 |n+1,s,r,hn,t,r',h=>by
  simp only [defsP] at h
  split at h
  ·cases h;rfl
  rcases bnd_cases h with ⟨a,r1,h1,h2⟩|⟨r1,e,_,h2⟩
  ·have:=(def_g s).e _ _ _ h1
   exact defs_end n a r1 (by omega) t r' h2
  cases h2
theorem defs_suf:∀(n:Nat) (s:SrcV) (r:List Tok) r' e,defsP n s r=.bad r' e→r' <:+ r
 |0,_,_,_,_,h=>by cases h
 |n+1,s,r,r',e,h=>by
  simp only [defsP] at h
  split at h
  ·cases h
  rcases bnd_cases h with ⟨a,r1,h1,h2⟩|⟨r1,e,h1,h2⟩
  ·exact (defs_suf n a r1 r' e h2).trans ((def_g s).g.suf _ _ _ h1)
  cases h2;exact (def_g s).g.sufB _ _ _ h1
theorem defs_bad:∀(n:Nat) (s:SrcV) (A R:List Tok) (e:Nat),defsP n s (A++R)=.bad R e → ∀m,A.length<m→(∃e',defsP m s A=.bad [] e') ∨ ∃x,defsP m s A=.ok x []
 |0,_,_,_,_,h,_,_=>by cases h
 |_+1,_,_,_,_,_,0,h=>absurd h (Nat.not_lt_zero _)
 |n+1,s,A,R,e,h,m+1,hm=>by
  simp only [defsP] at h ⊢
  by_cases hA:A=[]
  ·rw [if_pos hA];exact .inr ⟨s,rfl⟩
  rw [if_neg hA]
  split at h
  ·cases h
  rcases bnd_cases h with ⟨t,r1,h1,h2⟩|⟨r1,e,h1,h2⟩
  ·obtain ⟨A1,A2,rfl,rfl⟩:=split_suf ((def_g s).g.suf _ _ _ h1) (defs_suf _ _ _ _ _ h2)
   rw [List.append_assoc] at h1
   rw [bnd_ok ((def_g s).c A1 _ t h1 A2)]
   have h3:=(def_g s).e _ _ _ h1
   simp only [List.length_append] at h3 hm
   exact defs_bad n t A2 R e h2 m (by omega)
  cases h2
  rcases (def_g s).g.bad A R _ h1 with ⟨e',h3⟩|⟨t,h3⟩
  ·exact .inl ⟨e',bnd_bad h3⟩
  rw [bnd_ok h3]
  cases m with
  |zero=>exact .inr ⟨t,rfl⟩
  |succ m=>exact .inr ⟨t,by simp [defsP]⟩
theorem defs_app:∀(n:Nat) (s t:SrcV) (A R:List Tok),A.length<n→defsP n s A=.ok t [] → ∀m k,A.length+R.length<m→R.length<k→defsP m s (A++R)=defsP k t R
 |0,_,_,_,_,h,_,_,_,_,_=>absurd h (Nat.not_lt_zero _)
 |_+1,_,_,_,_,_,_,0,_,h,_=>absurd h (Nat.not_lt_zero _)
 |n+1,s,t,A,R,hn,h,m+1,k,hm,hk=>by
  by_cases hA:A=[]
  ·subst hA
   simp only [defsP] at h
   cases h
   exact defs_more _ _ _ _ (by simpa using hm) hk
  simp only [defsP] at h ⊢
  rw [if_neg hA] at h
  rw [if_neg (by simp [hA])]
  rcases bnd_cases h with ⟨u,r1,h1,h2⟩|⟨r1,e,_,h2⟩
  ·obtain ⟨A1,rfl⟩:=(def_g s).g.suf _ _ _ h1
   have h3:=(def_g s).e _ _ _ h1
   rw [List.append_assoc,bnd_ok ((def_g s).c A1 r1 u h1 (r1++R))]
   simp only [List.length_append] at h3 hm hn
   exact defs_app n u t r1 R (by omega) h2 m k (by omega) hk
  cases h2
end Go.SynM

namespace Go.SynM
open Go Go.Fw Go.RatM Go.SrcM
open Go.Proofs.YtgbeechjghajcaaGreatDoor (Tok)
def tw (l:List UInt8):Tok:=⟨1,0,B l,0⟩
def tm (x:ByteArray):Tok:=⟨1,0,x,0⟩
def ts (c:UInt8):Tok:=⟨3,0,B [c],0⟩
def tn (n:Int):Tok:=⟨2,0,e0,n⟩
theorem B_inj {a b:List UInt8}:B a=B b↔a=b:=⟨fun h=>by have:=congrArg (fun x=>x.data.toList) h;simpa using this,fun h=>by rw [h]⟩
section
variable {r:List Tok} {x:ByteArray} {n:Int} {c d:UInt8} {w v:List UInt8}
theorem nameP_tm:nameP (tm x::r)=.ok x r:=by unfold nameP;exact if_pos rfl
theorem numP_tn (h:n≤1048576):numP (tn n::r)=.ok n r:=by unfold numP;exact if_pos ⟨rfl,h⟩
theorem isT_tw:isT 1 (B w) (tw v::r)=decide (v=w):=by
 show decide ((1:Int)=1∧B v=B w)=_
 simp only [true_and,B_inj]
theorem isT_ts:isT 3 (B [c]) (ts d::r)=decide (d=c):=by
 show decide ((3:Int)=3∧B [d]=B [c])=_
 simp only [true_and,B_inj,List.cons.injEq,and_true]
theorem isT_ws {t:ByteArray}:isT 1 t (ts d::r)=false:=by unfold isT;exact decide_eq_false fun h=>(by decide:¬(3:Int)=1) h.1
theorem isT_wn {t:ByteArray}:isT 1 t (tn n::r)=false:=by unfold isT;exact decide_eq_false fun h=>(by decide:¬(2:Int)=1) h.1
theorem skip_tw:skip 1 (B w) (tw w::r)=.ok () r:=by unfold skip;rw [isT_tw,decide_eq_true rfl];rfl
theorem skip_ts:skip 3 (B [c]) (ts c::r)=.ok () r:=by unfold skip;rw [isT_ts,decide_eq_true rfl];rfl
theorem opt_yes {α:Type} {k:Int} {t:ByteArray} {a:α} {p:P α} {y:Tok} (h:isT k t (y::r)=true):optP k t a p (y::r)=p r:=if_pos h
theorem opt_no {α:Type} {k:Int} {t:ByteArray} {a:α} {p:P α} (h:isT k t r=false):optP k t a p r=.ok a r:=if_neg (by rw [h];exact Bool.false_ne_true)
theorem fracP_ok {m:Int} (h:n≤1048576) (h':m≤1048576):fracP (tn n::ts 47::tn m::r)=.ok (n,m) r:=by
 simp only [fracP,bnd,numP_tn h,skip_ts,numP_tn h',pur]
end
theorem many_fwd {α β:Type} {k:Int} {t:ByteArray} {p:P β} {T:α→List Tok} {f:α→β} {y:Tok} (hy:∀r,isT k t (y::r)=true):∀(l:List α) (m:Nat) (r:List Tok),(∀x∈l,∀r,p (T x++r)=.ok (f x) r)→l.length≤m→isT k t r=false→manyP k t p m ((l.map fun x=>y::T x).flatten++r)=.ok (l.map f) r
 | [],0,r,_,_,hr=>if_neg (by rw [List.map_nil,List.flatten_nil,List.nil_append,hr];exact Bool.false_ne_true)
 | [],m+1,r,_,_,hr=>if_neg (by rw [List.map_nil,List.flatten_nil,List.nil_append,hr];exact Bool.false_ne_true)
 |x::l,0,r,_,h,_=>absurd h (Nat.not_succ_le_zero _)
 |x::l,m+1,r,hp,h,hr=>by
  simp only [List.map_cons,List.flatten_cons,List.append_assoc,List.cons_append]
  simp only [manyP,hy,if_true,List.tail_cons]
  rw [bnd_ok (hp x (List.mem_cons_self ..) _),bnd_ok (many_fwd hy l m r (fun z hz=>hp z (List.mem_cons_of_mem _ hz)) (Nat.le_of_succ_le_succ h) hr)]
  rfl
def sepT {α:Type} (T:α→List Tok):List α→List Tok
 | []=>[]
 |x::l=>T x++(l.map fun y=>ts 44::T y).flatten
theorem sep_fwd {α β:Type} {p:P β} {T:α→List Tok} {f:α→β} {l:List α} {m:Nat} {r:List Tok} (hp:∀x∈l,∀r,p (T x++r)=.ok (f x) r) (h0:1≤l.length) (h:l.length≤m) (hr:isT 3 (B [44]) r=false):sepP p m (sepT T l++r)=.ok (l.map f) r:=by
 cases l with
 |nil=>cases h0
 |cons x l=>
  simp only [sepT,List.append_assoc]
  unfold sepP
  rw [bnd_ok (hp x (List.mem_cons_self ..) _),bnd_ok (many_fwd (y:=ts 44) (fun r=>by rw [isT_ts];rfl) l (m - 1) r (fun z hz=>hp z (List.mem_cons_of_mem _ hz)) (by simp at h;omega) hr)]
  rfl
/-! the parts as tokens -/
def unitT (u:Un):List Tok:=tw wUnit::tm u.name::((if u.of_=e0 then [] else [ts 61,tn u.n,ts 47,tn u.d,tm u.of_])++[ts 59])
def itemT (i:It):List Tok:=tw wItem::tm i.name::tw wIn::tm i.unit::tw wMass::tn i.mn::ts 47::tn i.md::((if i.shelf=0 then [] else [tw wKeeps,tn i.shelf])++[ts 59])
def plantT (x:ByteArray):List Tok:=[tw wPlant,tm x,ts 59]
def machT (m:Mc):List Tok:=[tw wMachine,tm m.name,tw wAt,tm m.plant,tw wClean,tn m.clean,ts 59]
def optnT (o:OpV):List Tok:=tw wOption::tm o.name::ts 123::(sepT (fun c=>[tm c]) o.ch++[ts 125,ts 59])
def condT (c:Cd):List Tok:=[tm c.opt,ts 61,tm c.ch]
def forbT (f:FbV):List Tok:=tw wForbid::(sepT condT f.cs++[ts 59])
def amT (a:Am):List Tok:=[tn a.n,ts 47,tn a.d,tm a.unit,tm a.item,ts 59]
def inT (a:Am):List Tok:=(if a.back then [tw wBack] else [])++amT a
def runT (x:Rn):List Tok:=[tm x.mach,tn x.slots,ts 59]
def swapT (x:Sw):List Tok:=[tw wSwap,tm x.a,tw wFor,tm x.b,ts 59]
def recT (r:RcV):List Tok:=tw wMake::tm r.item::tw wAt::tm r.plant::tw wFrom::tn r.fr::tw wTo::tn r.to::((if r.cs=[] then [] else tw wIf::sepT condT r.cs)++ts 123 ::
 ((r.inn.map fun a=>tw wIn::inT a).flatten++((r.out.map fun a=>tw wOut::amT a).flatten ++
 tw wRework::tn r.rwN::ts 47::tn r.rwD::ts 59::tw wYield::tn r.yN::ts 47::tn r.yD::tw wWithin::tn r.tN::ts 47::tn r.tD::ts 59::tw wLead::tn r.lead::ts 59 ::
 ((r.runs.map fun x=>tw wRun::runT x).flatten++[ts 125]))))
def srcT (s:SrcV):List Tok:=(s.units.map unitT).flatten++((s.items.map itemT).flatten++((s.plants.map plantT).flatten++((s.machines.map machT).flatten++((s.options.map optnT).flatten++((s.forbids.map forbT).flatten++((s.recipes.map recT).flatten++(s.swaps.map swapT).flatten))))))
end Go.SynM
namespace Go.SrcM
open Go Go.Fw Go.RatM Go.SynM
/-! without numbers of names -/
def unU (u:Un):Un:=⟨u.name,u.of_,u.n,u.d,0,zr⟩
def It.un0 (i:It):It:={i with un:=0}
def Mc.un (m:Mc):Mc:={m with pn:=0}
def OpV.un (o:OpV):OpV:=⟨o.name,hd0,o.ch⟩
def Cd.un (c:Cd):Cd:=⟨c.opt,c.ch,0,0⟩
def FbV.un (f:FbV):FbV:=⟨hd0,f.cs.map Cd.un⟩
def Am.un0 (a:Am):Am:=⟨a.n,a.d,a.unit,a.item,a.back,0,0⟩
def Rn.un (x:Rn):Rn:=⟨x.mach,x.slots,0⟩
def Sw.un (x:Sw):Sw:=⟨x.a,x.b,0,0⟩
def RcV.un (r:RcV):RcV:=⟨r.item,r.plant,r.fr,r.to,hd0,r.cs.map Cd.un,hd0,r.inn.map Am.un0,hd0,r.out.map Am.un0,r.rwN,r.rwD,r.yN,r.yD,r.tN,r.tD,r.lead,hd0,r.runs.map Rn.un,0,0⟩
def SrcV.un (s:SrcV):SrcV:=⟨s.units.map unU,s.items.map It.un0,s.plants,s.machines.map Mc.un,s.options.map OpV.un,s.forbids.map FbV.un,s.recipes.map RcV.un,s.swaps.map Sw.un⟩
/-! what can be printed -/
abbrev okV (n:Int):Prop:=0≤n∧n≤1048576
section
variable (N:ByteArray→Prop)
def goodU (u:Un):Prop:=N u.name∧((u.of_=e0∧u.n=0∧u.d=0)∨(u.of_≠e0∧N u.of_∧okV u.n∧okV u.d))
def It.good (i:It):Prop:=N i.name∧N i.unit∧okV i.mn∧okV i.md∧okV i.shelf
def Mc.good (m:Mc):Prop:=N m.name∧N m.plant∧okV m.clean
def OpV.good (o:OpV):Prop:=N o.name∧(1≤o.ch.length∧o.ch.length≤4) ∧ ∀c∈o.ch,N c
def Cd.good (c:Cd):Prop:=N c.opt∧N c.ch
def FbV.good (f:FbV):Prop:=(1≤f.cs.length∧f.cs.length≤6) ∧ ∀c∈f.cs,c.good N
def Am.good (a:Am):Prop:=okV a.n∧okV a.d∧N a.unit∧N a.item
def Rn.good (x:Rn):Prop:=N x.mach∧okV x.slots
def Sw.good (x:Sw):Prop:=N x.a∧N x.b
structure RcV.good (r:RcV):Prop where
 it:N r.item
 pl:N r.plant
 fr:okV r.fr
 to:okV r.to
 cl:r.cs.length≤6
 cs:∀c∈r.cs,c.good N
 il:r.inn.length≤8
 inn:∀a∈r.inn,a.good N
 ol:r.out.length≤8
 out:∀a∈r.out,a.good N∧a.back=false
 rw1:okV r.rwN
 rw2:okV r.rwD
 y1:okV r.yN
 y2:okV r.yD
 t1:okV r.tN
 t2:okV r.tD
 ld:okV r.lead
 rl:r.runs.length≤8
 runs:∀x∈r.runs,x.good N
structure SrcV.good (s:SrcV):Prop where
 lU:s.units.length≤32
 U:∀x∈s.units,goodU N x
 lI:s.items.length≤32
 I:∀x∈s.items,x.good N
 lP:s.plants.length≤8
 P:∀x∈s.plants,N x
 lM:s.machines.length≤16
 M:∀x∈s.machines,x.good N
 lO:s.options.length≤6
 O:∀x∈s.options,x.good N
 lF:s.forbids.length≤16
 F:∀x∈s.forbids,x.good N
 lR:s.recipes.length≤64
 R:∀x∈s.recipes,x.good N
 lS:s.swaps.length≤32
 S:∀x∈s.swaps,x.good N
end
end Go.SrcM
namespace Go.SynM
open Go Go.Fw Go.RatM Go.SrcM
open Go.Proofs.YtgbeechjghajcaaGreatDoor (Tok)
section
variable {N:ByteArray→Prop} {r:List Tok}
theorem unit_fwd {u:Un} (h:goodU N u):unitP ((unitT u).tail++r)=.ok (unU u) r:=by
 unfold unitP unitT
 simp only [List.tail_cons,List.cons_append]
 rw [bnd_ok nameP_tm]
 obtain ⟨_,⟨h1,h2,h3⟩|⟨h1,_,h2,h3⟩⟩:=h
 ·rw [if_pos h1]
  simp only [List.nil_append,List.cons_append]
  rw [bnd_ok (opt_no (by rw [isT_ts];rfl)),bnd_ok skip_ts]
  simp only [pur,unU,h1,h2,h3]
 rw [if_neg h1]
 simp only [List.cons_append,List.nil_append]
 rw [bnd_ok (r':=ts 59::r) (a:=(u.n,u.d,u.of_)) (by rw [opt_yes (by rw [isT_ts];rfl),bnd_ok (fracP_ok h2.2 h3.2),bnd_ok nameP_tm];rfl),bnd_ok skip_ts]
 rfl
theorem item_fwd {i:It} (h:i.good N):itemP ((itemT i).tail++r)=.ok i.un0 r:=by
 obtain ⟨_,_,h1,h2,h3⟩:=h
 unfold itemP itemT
 simp only [List.tail_cons,List.cons_append]
 rw [bnd_ok nameP_tm,bnd_ok skip_tw,bnd_ok nameP_tm,bnd_ok skip_tw,bnd_ok (fracP_ok h1.2 h2.2)]
 by_cases h0:i.shelf=0
 ·rw [if_pos h0]
  simp only [List.nil_append,List.cons_append]
  rw [bnd_ok (opt_no isT_ws),bnd_ok skip_ts]
  simp only [pur,It.un0,h0]
 rw [if_neg h0]
 simp only [List.cons_append,List.nil_append]
 rw [bnd_ok (r':=ts 59::r) (a:=i.shelf) (by rw [opt_yes (by rw [isT_tw];rfl),numP_tn h3.2]),bnd_ok skip_ts]
 rfl
theorem plant_fwd {x:ByteArray}:plantP ((plantT x).tail++r)=.ok x r:=by
 unfold plantP plantT
 simp only [List.tail_cons,List.cons_append,List.nil_append]
 rw [bnd_ok nameP_tm,bnd_ok skip_ts];rfl
theorem mach_fwd {m:Mc} (h:m.good N):machP ((machT m).tail++r)=.ok m.un r:=by
 unfold machP machT
 simp only [List.tail_cons,List.cons_append,List.nil_append]
 rw [bnd_ok nameP_tm,bnd_ok skip_tw,bnd_ok nameP_tm,bnd_ok skip_tw,bnd_ok (numP_tn h.2.2.2),bnd_ok skip_ts];rfl
theorem optn_fwd {o:OpV} (h:o.good N):optnP ((optnT o).tail++r)=.ok o.un r:=by
 unfold optnP optnT
 simp only [List.tail_cons,List.cons_append,List.append_assoc,List.nil_append]
 rw [bnd_ok nameP_tm,bnd_ok skip_ts,bnd_ok (sep_fwd (f:=fun x=>x) (fun x _ r=>nameP_tm) h.2.1.1 h.2.1.2 (by rw [isT_ts];rfl)),bnd_ok skip_ts,bnd_ok skip_ts,List.map_id'];rfl
theorem cond_fwd {c:Cd}:condP (condT c++r)=.ok c.un r:=by
 unfold condP condT
 simp only [List.cons_append,List.nil_append]
 rw [bnd_ok nameP_tm,bnd_ok skip_ts,bnd_ok nameP_tm];rfl
theorem forb_fwd {f:FbV} (h:f.good N):forbP ((forbT f).tail++r)=.ok f.un r:=by
 unfold forbP forbT
 simp only [List.tail_cons,List.append_assoc,List.cons_append,List.nil_append]
 rw [bnd_ok (sep_fwd (f:=Cd.un) (fun x _ r=>cond_fwd) h.1.1 h.1.2 (by rw [isT_ts];rfl)),bnd_ok skip_ts];rfl
theorem swap_fwd {x:Sw}:swapP ((swapT x).tail++r)=.ok x.un r:=by
 unfold swapP swapT
 simp only [List.tail_cons,List.cons_append,List.nil_append]
 rw [bnd_ok nameP_tm,bnd_ok skip_tw,bnd_ok nameP_tm,bnd_ok skip_ts];rfl
theorem out_fwd {a:Am} (h:a.good N):outP (amT a++r)=.ok {a.un0 with back:=false} r:=by
 unfold outP amT
 simp only [List.cons_append,List.nil_append]
 rw [bnd_ok (fracP_ok h.1.2 h.2.1.2),bnd_ok nameP_tm,bnd_ok nameP_tm,bnd_ok skip_ts];rfl
theorem in_fwd {a:Am} (h:a.good N):inP (inT a++r)=.ok a.un0 r:=by
 unfold inP inT
 by_cases hb:a.back=true
 ·rw [if_pos hb]
  simp only [List.cons_append,List.nil_append]
  rw [bnd_ok (r':=amT a++r) (a:=true) (by rw [opt_yes (by rw [isT_tw];rfl)];rfl),bnd_ok (out_fwd h)]
  simp only [pur,Am.un0,hb]
 rw [if_neg hb]
 simp only [List.nil_append]
 rw [bnd_ok (r':=amT a++r) (a:=false) (opt_no (by unfold amT;exact isT_wn)),bnd_ok (out_fwd h)]
 simp only [pur,Am.un0,Bool.not_eq_true] at hb ⊢
 rw [hb]
theorem run_fwd {x:Rn} (h:x.good N):runP (runT x++r)=.ok x.un r:=by
 unfold runP runT
 simp only [List.cons_append,List.nil_append]
 rw [bnd_ok nameP_tm,bnd_ok (numP_tn h.2.2),bnd_ok skip_ts];rfl
end
end Go.SynM

namespace Go.SynM
open Go Go.Fw Go.RatM Go.SrcM
open Go.Proofs.YtgbeechjghajcaaGreatDoor (Tok)
section
variable {N:ByteArray→Prop} {r:List Tok}
theorem isT_many {α:Type} {T:α→List Tok} {k:Int} {t:ByteArray} {y:Tok} {l:List α} (hy:∀r,isT k t (y::r)=false) (hr:isT k t r=false):isT k t ((l.map fun x=>y::T x).flatten++r)=false:=by
 cases l with
 |nil=>exact hr
 |cons x l=>exact hy _
theorem rec_fwd {x:RcV} (h:x.good N):recP ((recT x).tail++r)=.ok x.un r:=by
 unfold recP recT
 simp only [List.tail_cons,List.cons_append,List.append_assoc,List.nil_append]
 rw [bnd_ok nameP_tm,bnd_ok skip_tw,bnd_ok nameP_tm,bnd_ok skip_tw,bnd_ok (numP_tn h.fr.2),bnd_ok skip_tw,bnd_ok (numP_tn h.to.2)]
 obtain ⟨R,hR⟩:∃R,R=ts 123::((List.map (fun a=>tw wIn::inT a) x.inn).flatten++((List.map (fun a=>tw wOut::amT a) x.out).flatten++tw wRework::tn x.rwN::ts 47::tn x.rwD::ts 59::tw wYield::tn x.yN::ts 47::tn x.yD::tw wWithin::tn x.tN::ts 47::tn x.tD::ts 59::tw wLead::tn x.lead::ts 59::((List.map (fun a=>tw wRun::runT a) x.runs).flatten++ts 125::r))):=⟨_,rfl⟩
 rw [←hR]
 have e1:optP 1 (B wIf) [] (sepP condP 6) ((if x.cs=[] then [] else tw wIf::sepT condT x.cs)++R)=.ok (x.cs.map Cd.un) R:=by
  by_cases h0:x.cs=[]
  ·rw [if_pos h0,h0]
   exact opt_no (by rw [hR];exact isT_ws)
  rw [if_neg h0]
  simp only [List.cons_append]
  rw [opt_yes (by rw [isT_tw];rfl)]
  exact sep_fwd (fun x _ r=>cond_fwd) (List.length_pos_iff.2 h0) h.cl (by rw [hR,isT_ts];rfl)
 rw [bnd_ok e1,hR,bnd_ok skip_ts,
  bnd_ok (many_fwd (f:=Am.un0) (fun r=>by rw [isT_tw];rfl) x.inn 8 _ (fun a ha r=>in_fwd (h.inn a ha)) h.il (isT_many (fun r=>by rw [isT_tw];rfl) (by rw [isT_tw];rfl))),
  bnd_ok (many_fwd (f:=Am.un0) (fun r=>by rw [isT_tw];rfl) x.out 8 _ (fun a ha r=>by rw [out_fwd (h.out a ha).1];simp only [Am.un0,(h.out a ha).2]) h.ol (by rw [isT_tw];rfl)),
  bnd_ok skip_tw,bnd_ok (fracP_ok h.rw1.2 h.rw2.2),bnd_ok skip_ts,bnd_ok skip_tw,bnd_ok (fracP_ok h.y1.2 h.y2.2),bnd_ok skip_tw,bnd_ok (fracP_ok h.t1.2 h.t2.2),bnd_ok skip_ts,bnd_ok skip_tw,bnd_ok (numP_tn h.ld.2),bnd_ok skip_ts,
  bnd_ok (many_fwd (f:=Rn.un) (fun r=>by rw [isT_tw];rfl) x.runs 8 _ (fun a ha r=>run_fwd (h.runs a ha)) h.rl isT_ws),bnd_ok skip_ts]
 rfl
/-! the definitions -/
def readD (s:SrcV) (r:List Tok):Rs SrcV:=defsP (r.length+1) s r
theorem readD_step {s t:SrcV} {A:List Tok} (h0:A ≠ []) (h:defP s (A++r)=.ok t r):readD s (A++r)=readD t r:=by
 unfold readD
 show defsP (_+1) _ _=_
 simp only [defsP]
 rw [if_neg (by simp [h0]),bnd_ok h]
 have hA:=List.length_pos_iff.2 h0
 exact defs_more (A++r).length (r.length+1) t r (by rw [List.length_append];omega) (Nat.lt_succ_self _)
theorem readD_all {α:Type} {T:α→List Tok} {g:SrcV→α→SrcV} (h0:∀x,T x ≠ []):∀(l:List α) (s:SrcV),(∀(m:List α) (x:α) (n:List α),l=m++x::n → ∀r,defP (m.foldl g s) (T x++r)=.ok (g (m.foldl g s) x) r)→readD s ((l.map T).flatten++r)=readD (l.foldl g s) r
 | [],_,_=>rfl
 |x::l,s,h=>by
  simp only [List.map_cons,List.flatten_cons,List.append_assoc,List.foldl_cons]
  refine (readD_step (s:=s) (h0 x) (h [] x l rfl _)).trans ?_
  exact readD_all h0 l (g s x) fun m y n e r=>h (x::m) y n (by rw [e];rfl) r
theorem br_yes {α:Type} {w:List UInt8} {n most:Nat} {p q:P α} (h:n<most):brP (B w) n most p q (tw w::r)=p r:=by
 unfold brP
 rw [if_pos (by rw [isT_tw];exact decide_eq_true rfl),if_neg (Nat.not_le.2 h)];rfl
theorem br_no {α:Type} {w v:List UInt8} {n most:Nat} {p q:P α} (h:v≠w):brP (B w) n most p q (tw v::r)=q (tw v::r):=by
 unfold brP
 rw [if_neg (by rw [isT_tw,decide_eq_false h];exact Bool.false_ne_true)]
theorem foldl_len {α:Type} {g:SrcV→α→SrcV} {n:SrcV→Nat} (hg:∀s x,n (g s x)=n s+1):∀(l:List α) (s:SrcV),n (l.foldl g s)=n s+l.length
 | [],_=>rfl
 |x::l,s=>by rw [List.foldl_cons,foldl_len hg l,hg,List.length_cons];omega
theorem pre_len {α:Type} {l m n:List α} {x:α} (e:l=m++x::n):m.length<l.length:=by rw [e,List.length_append,List.length_cons];omega
theorem pre_mem {α:Type} {l m n:List α} {x:α} (e:l=m++x::n):x∈l:=by rw [e];simp
def gU (s:SrcV) (x:Un):SrcV:={s with units:=s.units++[unU x]}
def gI (s:SrcV) (x:It):SrcV:={s with items:=s.items++[x.un0]}
def gP (s:SrcV) (x:ByteArray):SrcV:={s with plants:=s.plants++[x]}
def gM (s:SrcV) (x:Mc):SrcV:={s with machines:=s.machines++[x.un]}
def gO (s:SrcV) (x:OpV):SrcV:={s with options:=s.options++[x.un]}
def gF (s:SrcV) (x:FbV):SrcV:={s with forbids:=s.forbids++[x.un]}
def gR (s:SrcV) (x:RcV):SrcV:={s with recipes:=s.recipes++[x.un]}
def gS (s:SrcV) (x:Sw):SrcV:={s with swaps:=s.swaps++[x.un]}
theorem read_units {s:SrcV} {l:List Un} (h:∀x∈l,goodU N x) (hl:s.units.length+l.length≤32):readD s ((l.map unitT).flatten++r)=readD (l.foldl gU s) r:=
 readD_all (fun x=>List.cons_ne_nil _ _) l s fun m x n e r=>by
  have:=pre_len e
  have hm:=foldl_len (g:=gU) (n:=fun s=>s.units.length) (fun s x=>by simp [gU]) m s
  show defP _ (tw wUnit::((unitT x).tail++r))=_
  unfold defP
  rw [br_yes (by omega),bnd_ok (unit_fwd (h x (pre_mem e)))];rfl
theorem read_items {s:SrcV} {l:List It} (h:∀x∈l,x.good N) (hl:s.items.length+l.length≤32):readD s ((l.map itemT).flatten++r)=readD (l.foldl gI s) r:=
 readD_all (fun x=>List.cons_ne_nil _ _) l s fun m x n e r=>by
  have:=pre_len e
  have hm:=foldl_len (g:=gI) (n:=fun s=>s.items.length) (fun s x=>by simp [gI]) m s
  show defP _ (tw wItem::((itemT x).tail++r))=_
  unfold defP
  rw [br_no (by decide),br_yes (by omega),bnd_ok (item_fwd (h x (pre_mem e)))];rfl
theorem read_plants {s:SrcV} {l:List ByteArray} (hl:s.plants.length+l.length≤8):readD s ((l.map plantT).flatten++r)=readD (l.foldl gP s) r:=
 readD_all (fun x=>List.cons_ne_nil _ _) l s fun m x n e r=>by
  have:=pre_len e
  have hm:=foldl_len (g:=gP) (n:=fun s=>s.plants.length) (fun s x=>by simp [gP]) m s
  show defP _ (tw wPlant::((plantT x).tail++r))=_
  unfold defP
  rw [br_no (by decide),br_no (by decide),br_yes (by omega),bnd_ok plant_fwd];rfl
theorem read_machs {s:SrcV} {l:List Mc} (h:∀x∈l,x.good N) (hl:s.machines.length+l.length≤16):readD s ((l.map machT).flatten++r)=readD (l.foldl gM s) r:=
 readD_all (fun x=>List.cons_ne_nil _ _) l s fun m x n e r=>by
  have:=pre_len e
  have hm:=foldl_len (g:=gM) (n:=fun s=>s.machines.length) (fun s x=>by simp [gM]) m s
  show defP _ (tw wMachine::((machT x).tail++r))=_
  unfold defP
  rw [br_no (by decide),br_no (by decide),br_no (by decide),br_yes (by omega),bnd_ok (mach_fwd (h x (pre_mem e)))];rfl
theorem read_opts {s:SrcV} {l:List OpV} (h:∀x∈l,x.good N) (hl:s.options.length+l.length≤6):readD s ((l.map optnT).flatten++r)=readD (l.foldl gO s) r:=
 readD_all (fun x=>List.cons_ne_nil _ _) l s fun m x n e r=>by
  have:=pre_len e
  have hm:=foldl_len (g:=gO) (n:=fun s=>s.options.length) (fun s x=>by simp [gO]) m s
  show defP _ (tw wOption::((optnT x).tail++r))=_
  unfold defP
  rw [br_no (by decide),br_no (by decide),br_no (by decide),br_no (by decide),br_yes (by omega),bnd_ok (optn_fwd (h x (pre_mem e)))];rfl
theorem read_forbs {s:SrcV} {l:List FbV} (h:∀x∈l,x.good N) (hl:s.forbids.length+l.length≤16):readD s ((l.map forbT).flatten++r)=readD (l.foldl gF s) r:=
 readD_all (fun x=>List.cons_ne_nil _ _) l s fun m x n e r=>by
  have:=pre_len e
  have hm:=foldl_len (g:=gF) (n:=fun s=>s.forbids.length) (fun s x=>by simp [gF]) m s
  show defP _ (tw wForbid::((forbT x).tail++r))=_
  unfold defP
  rw [br_no (by decide),br_no (by decide),br_no (by decide),br_no (by decide),br_no (by decide),br_yes (by omega),bnd_ok (forb_fwd (h x (pre_mem e)))];rfl
theorem read_recs {s:SrcV} {l:List RcV} (h:∀x∈l,x.good N) (hl:s.recipes.length+l.length≤64):readD s ((l.map recT).flatten++r)=readD (l.foldl gR s) r:=
 readD_all (fun x=>List.cons_ne_nil _ _) l s fun m x n e r=>by
  have:=pre_len e
  have hm:=foldl_len (g:=gR) (n:=fun s=>s.recipes.length) (fun s x=>by simp [gR]) m s
  show defP _ (tw wMake::((recT x).tail++r))=_
  unfold defP
  rw [br_no (by decide),br_no (by decide),br_no (by decide),br_no (by decide),br_no (by decide),br_no (by decide),br_yes (by omega),bnd_ok (rec_fwd (h x (pre_mem e)))];rfl
theorem read_swaps {s:SrcV} {l:List Sw} (hl:s.swaps.length+l.length≤32):readD s ((l.map swapT).flatten++r)=readD (l.foldl gS s) r:=
 readD_all (fun x=>List.cons_ne_nil _ _) l s fun m x n e r=>by
  have:=pre_len e
  have hm:=foldl_len (g:=gS) (n:=fun s=>s.swaps.length) (fun s x=>by simp [gS]) m s
  show defP _ (tw wSwap::((swapT x).tail++r))=_
  unfold defP
  rw [br_no (by decide),br_no (by decide),br_no (by decide),br_no (by decide),br_no (by decide),br_no (by decide),br_no (by decide),br_yes (by omega),bnd_ok swap_fwd];rfl
theorem foldU:∀(l:List Un) (s:SrcV),l.foldl gU s = {s with units:=s.units++l.map unU}
 | [],s=>by simp
 |x::l,s=>by rw [List.foldl_cons,foldU l];simp [gU]
theorem foldI:∀(l:List It) (s:SrcV),l.foldl gI s = {s with items:=s.items++l.map It.un0}
 | [],s=>by simp
 |x::l,s=>by rw [List.foldl_cons,foldI l];simp [gI]
theorem foldP:∀(l:List ByteArray) (s:SrcV),l.foldl gP s = {s with plants:=s.plants++l}
 | [],s=>by simp
 |x::l,s=>by rw [List.foldl_cons,foldP l];simp [gP]
theorem foldM:∀(l:List Mc) (s:SrcV),l.foldl gM s = {s with machines:=s.machines++l.map Mc.un}
 | [],s=>by simp
 |x::l,s=>by rw [List.foldl_cons,foldM l];simp [gM]
theorem foldO:∀(l:List OpV) (s:SrcV),l.foldl gO s = {s with options:=s.options++l.map OpV.un}
 | [],s=>by simp
 |x::l,s=>by rw [List.foldl_cons,foldO l];simp [gO]
theorem foldF:∀(l:List FbV) (s:SrcV),l.foldl gF s = {s with forbids:=s.forbids++l.map FbV.un}
 | [],s=>by simp
 |x::l,s=>by rw [List.foldl_cons,foldF l];simp [gF]
theorem foldR:∀(l:List RcV) (s:SrcV),l.foldl gR s = {s with recipes:=s.recipes++l.map RcV.un}
 | [],s=>by simp
 |x::l,s=>by rw [List.foldl_cons,foldR l];simp [gR]
theorem foldS:∀(l:List Sw) (s:SrcV),l.foldl gS s = {s with swaps:=s.swaps++l.map Sw.un}
 | [],s=>by simp
 |x::l,s=>by rw [List.foldl_cons,foldS l];simp [gS]
theorem read_src {s:SrcV} (h:s.good N):readP (srcT s)=.ok s.un []:=by
 show readD noS (srcT s)=_
 unfold srcT
 rw [read_units h.U (by simpa [noS] using h.lU),foldU,read_items h.I (by simpa [noS] using h.lI),foldI,read_plants (by simpa [noS] using h.lP),foldP,read_machs h.M (by simpa [noS] using h.lM),foldM,read_opts h.O (by simpa [noS] using h.lO),foldO,read_forbs h.F (by simpa [noS] using h.lF),foldF,read_recs h.R (by simpa [noS] using h.lR),foldR]
 have:=read_swaps (r:=[]) (s:={noS with units:=s.units.map unU,items:=s.items.map It.un0,plants:=s.plants,machines:=s.machines.map Mc.un,options:=s.options.map OpV.un,forbids:=s.forbids.map FbV.un,recipes:=s.recipes.map RcV.un}) (l:=s.swaps) (by simpa [noS] using h.lS)
 rw [List.append_nil,foldS] at this
 simp only [noS,List.nil_append] at this ⊢
 rw [this];rfl
end
end Go.SynM

namespace Go.SynM
open Go Go.Fw Go.RatM Go.SrcM
open Go.Proofs.YtgbeechjghajcaaGreatDoor (Tok)
section
variable {N:ByteArray→Prop}
structure OkT (N:ByteArray→Prop) (t:Tok):Prop where
 nm:t.kind=1→N t.text
 num:t.kind=2→0≤t.n
abbrev AllV (N:ByteArray→Prop) (r:List Tok):Prop:=∀t∈r,OkT N t
theorem AllV.suf {r r':List Tok} (h:AllV N r) (hs:r' <:+ r):AllV N r':=fun t ht=>h t (hs.subset ht)
def Gives (N:ByteArray→Prop) {α:Type} (p:P α) (Q:α→Prop):Prop:=∀r a r',AllV N r→p r=.ok a r'→Q a
theorem gv_bnd {α β:Type} {p:P α} {f:α→P β} {Q:α→Prop} {R:β→Prop} (hg:Good p) (h1:Gives N p Q) (h2:∀a,Q a→Gives N (f a) R):Gives N (bnd p f) R:=fun r b r' hr h=>by
 rcases bnd_cases h with ⟨a,r1,e1,e2⟩|⟨r1,e,_,e2⟩
 ·exact h2 a (h1 r a r1 hr e1) r1 b r' (hr.suf (hg.suf _ _ _ e1)) e2
 cases e2
theorem gv_pur {α:Type} {a:α} {Q:α→Prop} (h:Q a):Gives N (pur a) Q:=fun r b r' _ e=>by
 have e:(Rs.ok a r:Rs α)=.ok b r':=e
 cases e;exact h
theorem gv_name:Gives N nameP N:=fun r a r' hr h=>by
 cases r with
 |nil=>cases h
 |cons x r=>
  simp only [nameP] at h
  split at h
  ·rename_i hk
   cases h
   exact (hr x (List.mem_cons_self ..)).nm hk
  cases h
theorem gv_num:Gives N numP okV:=fun r a r' hr h=>by
 cases r with
 |nil=>cases h
 |cons x r=>
  simp only [numP] at h
  split at h
  ·rename_i hk
   cases h
   exact ⟨(hr x (List.mem_cons_self ..)).num hk.1,hk.2⟩
  cases h
theorem gv_skip {k:Int} {t:ByteArray}:Gives N (skip k t) (fun _=>True):=fun _ _ _ _ _=>trivial
theorem gv_frac:Gives N fracP (fun q=>okV q.1∧okV q.2):=gv_bnd num_g.g gv_num fun n hn=>gv_bnd (skip_g _ _).g gv_skip fun _ _=>gv_bnd num_g.g gv_num fun d hd=>gv_pur ⟨hn,hd⟩
theorem gv_opt {α:Type} {k:Int} {t:ByteArray} {a:α} {p:P α} {Q:α→Prop} (h:Q a) (hp:Gives N p Q):Gives N (optP k t a p) Q:=fun r b r' hr e=>by
 unfold optP at e
 split at e
 ·exact hp _ _ _ (hr.suf (List.tail_suffix r)) e
 cases e;exact h
theorem gv_many {α:Type} {k:Int} {t:ByteArray} {p:P α} {Q:α→Prop} (hg:Good p) (hp:Gives N p Q):∀m,Gives N (manyP k t p m) (fun l=>l.length≤m ∧ ∀x∈l,Q x)
 |0=>fun r b r' hr e=>by
  simp only [manyP] at e
  split at e
  ·cases e
  cases e;exact ⟨Nat.le_refl _,fun x hx=>nomatch hx⟩
 |m+1=>by
  rw [many_succ]
  exact gv_opt ⟨Nat.zero_le _,fun x hx=>nomatch hx⟩ (gv_bnd hg hp fun x hx=>gv_bnd (good_many hg m) (gv_many hg hp m) fun l hl=>gv_pur ⟨Nat.succ_le_succ hl.1,fun y hy=>(List.mem_cons.1 hy).elim (fun e=>e▸hx) (hl.2 y)⟩)
theorem gv_sep {α:Type} {p:P α} {Q:α→Prop} (hg:Good p) (hp:Gives N p Q) {m:Nat} (hm:1≤m):Gives N (sepP p m) (fun l=>(1≤l.length∧l.length≤m) ∧ ∀x∈l,Q x):=
 gv_bnd hg hp fun x hx=>gv_bnd (good_many hg _) (gv_many hg hp _) fun l hl=>gv_pur ⟨⟨Nat.succ_le_succ (Nat.zero_le _),by have:=hl.1;rw [List.length_cons];omega⟩,fun y hy=>(List.mem_cons.1 hy).elim (fun e=>e▸hx) (hl.2 y)⟩
theorem gv_br {α:Type} {t:ByteArray} {n most:Nat} {p q:P α} {Q:α→Prop} (hp:n<most→Gives N p Q) (hq:Gives N q Q):Gives N (brP t n most p q) Q:=fun r b r' hr e=>by
 unfold brP at e
 split at e
 ·split at e
  ·cases e
  exact hp (by omega) _ _ _ (hr.suf (List.tail_suffix r)) e
 exact hq _ _ _ hr e
theorem gv_fail {α:Type} {e:Nat} {Q:α→Prop}:Gives N (failP e) Q:=fun _ _ _ _ h=>by cases h
theorem gv_mono {α:Type} {p:P α} {Q R:α→Prop} (h:Gives N p Q) (hm:∀a,Q a→R a):Gives N p R:=fun r a r' hr e=>hm a (h r a r' hr e)
/-! the parts -/
theorem gv_unit (hN:¬N e0):Gives N unitP (fun u=>goodU N u∧unU u=u):=
 gv_bnd name_g.g gv_name fun nm hn=>gv_bnd (good_opt (good_bnd frac_g.g fun _=>good_bnd name_g.g fun _=>good_pur _))
  (Q:=fun x=>(x.2.2=e0∧x.1=0∧x.2.1=0)∨(x.2.2≠e0∧N x.2.2∧okV x.1∧okV x.2.1))
  (gv_opt (.inl ⟨rfl,rfl,rfl⟩) (gv_bnd frac_g.g gv_frac fun q hq=>gv_bnd name_g.g gv_name fun o ho=>gv_pur (.inr ⟨fun e=>hN (e▸ho),ho,hq.1,hq.2⟩)))
  fun x hx=>gv_bnd (skip_g _ _).g gv_skip fun _ _=>gv_pur ⟨⟨hn,hx⟩,rfl⟩
theorem gv_item:Gives N itemP (fun i=>i.good N∧i.un0=i):=
 gv_bnd name_g.g gv_name fun _ h1=>gv_bnd (skip_g _ _).g gv_skip fun _ _=>gv_bnd name_g.g gv_name fun _ h2=>gv_bnd (skip_g _ _).g gv_skip fun _ _=>gv_bnd frac_g.g gv_frac fun _ h3=>
  gv_bnd (good_opt num_g.g) (gv_opt (Q:=okV) (by decide) gv_num) fun _ h4=>gv_bnd (skip_g _ _).g gv_skip fun _ _=>gv_pur ⟨⟨h1,h2,h3.1,h3.2,h4⟩,rfl⟩
theorem gv_plant:Gives N plantP N:=gv_bnd name_g.g gv_name fun _ h=>gv_bnd (skip_g _ _).g gv_skip fun _ _=>gv_pur h
theorem gv_mach:Gives N machP (fun m=>m.good N∧m.un=m):=
 gv_bnd name_g.g gv_name fun _ h1=>gv_bnd (skip_g _ _).g gv_skip fun _ _=>gv_bnd name_g.g gv_name fun _ h2=>gv_bnd (skip_g _ _).g gv_skip fun _ _=>gv_bnd num_g.g gv_num fun _ h3=>gv_bnd (skip_g _ _).g gv_skip fun _ _=>gv_pur ⟨⟨h1,h2,h3⟩,rfl⟩
theorem gv_optn:Gives N optnP (fun o=>o.good N∧o.un=o):=
 gv_bnd name_g.g gv_name fun _ h1=>gv_bnd (skip_g _ _).g gv_skip fun _ _=>gv_bnd (good_sep name_g.g 4) (gv_sep name_g.g gv_name (by decide)) fun _ h2=>gv_bnd (skip_g _ _).g gv_skip fun _ _=>gv_bnd (skip_g _ _).g gv_skip fun _ _=>gv_pur ⟨⟨h1,h2.1,h2.2⟩,rfl⟩
theorem gv_cond:Gives N condP (fun c=>c.good N∧c.un=c):=
 gv_bnd name_g.g gv_name fun _ h1=>gv_bnd (skip_g _ _).g gv_skip fun _ _=>gv_bnd name_g.g gv_name fun _ h2=>gv_pur ⟨⟨h1,h2⟩,rfl⟩
theorem map_un {α:Type} {f:α→α} {l:List α} (h:∀x∈l,f x=x):l.map f=l:=by
 rw [List.map_congr_left h,List.map_id']
theorem gv_forb:Gives N forbP (fun f=>f.good N∧f.un=f):=
 gv_bnd (good_sep cond_g.g 6) (gv_sep cond_g.g gv_cond (by decide)) fun l h=>gv_bnd (skip_g _ _).g gv_skip fun _ _=>gv_pur ⟨⟨h.1,fun c hc=>(h.2 c hc).1⟩,by
  show (⟨hd0,l.map Cd.un⟩:FbV)=⟨hd0,l⟩
  rw [map_un fun c hc=>(h.2 c hc).2]⟩
theorem gv_swap:Gives N swapP (fun x=>x.good N∧x.un=x):=
 gv_bnd name_g.g gv_name fun _ h1=>gv_bnd (skip_g _ _).g gv_skip fun _ _=>gv_bnd name_g.g gv_name fun _ h2=>gv_bnd (skip_g _ _).g gv_skip fun _ _=>gv_pur ⟨⟨h1,h2⟩,rfl⟩
theorem gv_out:Gives N outP (fun a=>(a.good N∧a.un0=a)∧a.back=false):=
 gv_bnd frac_g.g gv_frac fun _ h1=>gv_bnd name_g.g gv_name fun _ h2=>gv_bnd name_g.g gv_name fun _ h3=>gv_bnd (skip_g _ _).g gv_skip fun _ _=>gv_pur ⟨⟨⟨h1.1,h1.2,h2,h3⟩,rfl⟩,rfl⟩
theorem gv_in:Gives N inP (fun a=>a.good N∧a.un0=a):=
 gv_bnd (good_opt (good_pur _)) (Q:=fun _=>True) (fun _ _ _ _ _=>trivial) fun b _=>gv_bnd out_g.g gv_out fun a h=>gv_pur ⟨h.1.1,by
  show ({a.un0 with back:=b}:Am) = {a with back:=b}
  rw [h.1.2]⟩
theorem gv_run:Gives N runP (fun x=>x.good N∧x.un=x):=
 gv_bnd name_g.g gv_name fun _ h1=>gv_bnd num_g.g gv_num fun _ h2=>gv_bnd (skip_g _ _).g gv_skip fun _ _=>gv_pur ⟨⟨h1,h2⟩,rfl⟩
theorem gv_rec:Gives N recP (fun x=>x.good N∧x.un=x):=
 gv_bnd name_g.g gv_name fun _ h1=>gv_bnd (skip_g _ _).g gv_skip fun _ _=>gv_bnd name_g.g gv_name fun _ h2=>gv_bnd (skip_g _ _).g gv_skip fun _ _=>gv_bnd num_g.g gv_num fun _ h3=>gv_bnd (skip_g _ _).g gv_skip fun _ _=>gv_bnd num_g.g gv_num fun _ h4=>
 gv_bnd (good_opt (good_sep cond_g.g 6)) (Q:=fun l=>l.length≤6 ∧ ∀c∈l,c.good N∧c.un=c) (gv_opt ⟨Nat.zero_le _,fun x hx=>nomatch hx⟩ (gv_mono (gv_sep cond_g.g gv_cond (by decide)) fun l h=>⟨h.1.2,h.2⟩)) fun cs h5=>
 gv_bnd (skip_g _ _).g gv_skip fun _ _=>gv_bnd (good_many in_g.g 8) (gv_many in_g.g gv_in 8) fun ins h6=>gv_bnd (good_many out_g.g 8) (gv_many out_g.g gv_out 8) fun outs h7=>
 gv_bnd (skip_g _ _).g gv_skip fun _ _=>gv_bnd frac_g.g gv_frac fun _ h8=>gv_bnd (skip_g _ _).g gv_skip fun _ _=>gv_bnd (skip_g _ _).g gv_skip fun _ _=>gv_bnd frac_g.g gv_frac fun _ h9=>gv_bnd (skip_g _ _).g gv_skip fun _ _=>gv_bnd frac_g.g gv_frac fun _ h10=>
 gv_bnd (skip_g _ _).g gv_skip fun _ _=>gv_bnd (skip_g _ _).g gv_skip fun _ _=>gv_bnd num_g.g gv_num fun _ h11=>gv_bnd (skip_g _ _).g gv_skip fun _ _=>gv_bnd (good_many run_g.g 8) (gv_many run_g.g gv_run 8) fun runs h12=>gv_bnd (skip_g _ _).g gv_skip fun _ _=>
 gv_pur ⟨⟨h1,h2,h3,h4,h5.1,fun c hc=>(h5.2 c hc).1,h6.1,fun c hc=>(h6.2 c hc).1,h7.1,fun c hc=>⟨(h7.2 c hc).1.1,(h7.2 c hc).2⟩,h8.1,h8.2,h9.1,h9.2,h10.1,h10.2,h11,h12.1,fun c hc=>(h12.2 c hc).1⟩,by
  unfold RcV.un
  simp only
  rw [map_un fun c hc=>(h5.2 c hc).2,map_un fun c hc=>(h6.2 c hc).2,map_un fun c hc=>(h7.2 c hc).1.2,map_un fun c hc=>(h12.2 c hc).2]⟩
/-! the definitions -/
theorem mem_snoc {α:Type} {Q:α→Prop} {l:List α} {x:α} (h:∀y∈l,Q y) (hx:Q x):∀y∈l++[x],Q y:=fun y hy=>(List.mem_append.1 hy).elim (h y) fun hy=>by rw [List.mem_singleton.1 hy];exact hx
theorem len_snoc {α:Type} {l:List α} {x:α} {n:Nat} (h:l.length<n):(l++[x]).length≤n:=by rw [List.length_append];exact h
theorem map_snoc {α:Type} {f:α→α} {l:List α} {x:α} (h:l.map f=l) (hx:f x=x):(l++[x]).map f=l++[x]:=by rw [List.map_append,h,List.map_cons,List.map_nil,hx]
theorem gv_def (hN:¬N e0) {s:SrcV} (hs:s.good N) (hu:s.un=s):Gives N (defP s) (fun t=>t.good N∧t.un=t):=by
 have uU:=congrArg SrcV.units hu
 have uI:=congrArg SrcV.items hu
 have uM:=congrArg SrcV.machines hu
 have uO:=congrArg SrcV.options hu
 have uF:=congrArg SrcV.forbids hu
 have uR:=congrArg SrcV.recipes hu
 have uS:=congrArg SrcV.swaps hu
 simp only [SrcV.un] at uU uI uM uO uF uR uS
 refine gv_br (fun hl=>gv_bnd unit_g.g (gv_unit hN) fun x hx=>gv_pur ⟨{hs with lU:=len_snoc hl,U:=mem_snoc hs.U hx.1},?_⟩) <|
  gv_br (fun hl=>gv_bnd item_g.g gv_item fun x hx=>gv_pur ⟨{hs with lI:=len_snoc hl,I:=mem_snoc hs.I hx.1},?_⟩) <|
  gv_br (fun hl=>gv_bnd plant_g.g gv_plant fun x hx=>gv_pur ⟨{hs with lP:=len_snoc hl,P:=mem_snoc hs.P hx},?_⟩) <|
  gv_br (fun hl=>gv_bnd mach_g.g gv_mach fun x hx=>gv_pur ⟨{hs with lM:=len_snoc hl,M:=mem_snoc hs.M hx.1},?_⟩) <|
  gv_br (fun hl=>gv_bnd optn_g.g gv_optn fun x hx=>gv_pur ⟨{hs with lO:=len_snoc hl,O:=mem_snoc hs.O hx.1},?_⟩) <|
  gv_br (fun hl=>gv_bnd forb_g.g gv_forb fun x hx=>gv_pur ⟨{hs with lF:=len_snoc hl,F:=mem_snoc hs.F hx.1},?_⟩) <|
  gv_br (fun hl=>gv_bnd rec_g.g gv_rec fun x hx=>gv_pur ⟨{hs with lR:=len_snoc hl,R:=mem_snoc hs.R hx.1},?_⟩) <|
  gv_br (fun hl=>gv_bnd swap_g.g gv_swap fun x hx=>gv_pur ⟨{hs with lS:=len_snoc hl,S:=mem_snoc hs.S hx.1},?_⟩) gv_fail
 all_goals simp only [SrcV.un,uU,uI,uM,uO,uF,uR,uS]
 ·rw [map_snoc uU hx.2]
 ·rw [map_snoc uI hx.2]
 ·rw [map_snoc uM hx.2]
 ·rw [map_snoc uO hx.2]
 ·rw [map_snoc uF hx.2]
 ·rw [map_snoc uR hx.2]
 rw [map_snoc uS hx.2]
theorem gv_defs (hN:¬N e0):∀(n:Nat) (s:SrcV),s.good N→s.un=s→Gives N (defsP n s) (fun t=>t.good N∧t.un=t)
 |0,s,hs,hu=>gv_pur ⟨hs,hu⟩
 |n+1,s,hs,hu=>fun r a r' hr e=>by
  simp only [defsP] at e
  split at e
  ·cases e;exact ⟨hs,hu⟩
  exact gv_bnd (def_g s).g (gv_def hN hs hu) (fun t ht=>gv_defs hN n t ht.1 ht.2) r a r' hr e
theorem noS_good:noS.good N:=⟨Nat.zero_le _,(fun _ h=>nomatch h),Nat.zero_le _,(fun _ h=>nomatch h),Nat.zero_le _,(fun _ h=>nomatch h),Nat.zero_le _,(fun _ h=>nomatch h),Nat.zero_le _,(fun _ h=>nomatch h),Nat.zero_le _,(fun _ h=>nomatch h),Nat.zero_le _,(fun _ h=>nomatch h),Nat.zero_le _,(fun _ h=>nomatch h)⟩
theorem read_good (hN:¬N e0) {r r':List Tok} {s:SrcV} (hr:AllV N r) (h:readP r=.ok s r'):s.good N∧s.un=s:=gv_defs hN _ noS noS_good rfl r s r' hr h
end
end Go.SynM

namespace Go.SynM
open Go Go.Fw Go.RatM Go.SrcM
open Go.Proofs.YtgbeechjghajcaaGreatDoor (Tok)
def er (t:Tok):Tok:={t with pos:=0}
def Rs.mp {α:Type} (f:List Tok→List Tok):Rs α→Rs α
 | .ok a r=>.ok a (f r)
 | .bad r e=>.bad (f r) e
def Ins {α:Type} (p:P α):Prop:=∀r,p (r.map er)=(p r).mp (List.map er)
theorem isT_er {k:Int} {t:ByteArray} {r:List Tok}:isT k t (r.map er)=isT k t r:=by cases r<;>rfl
section
variable {α β:Type} {p:P α} {f:α→P β}
theorem in_bnd (hp:Ins p) (hf:∀a,Ins (f a)):Ins (bnd p f):=fun r=>by
 unfold bnd
 rw [hp r]
 cases p r with
 |ok a r1=>exact hf a r1
 |bad r1 e=>rfl
theorem in_pur {a:α}:Ins (pur a):=fun _=>rfl
theorem in_opt {k:Int} {t:ByteArray} {a:α} (hp:Ins p):Ins (optP k t a p):=fun r=>by
 unfold optP
 rw [isT_er]
 split
 ·rw [←hp,List.map_tail]
 rfl
theorem in_br {t:ByteArray} {n most:Nat} {q:P α} (hp:Ins p) (hq:Ins q):Ins (brP t n most p q):=fun r=>by
 unfold brP
 rw [isT_er]
 split
 ·split
  ·rfl
  rw [←hp,List.map_tail]
 exact hq r
end
theorem in_name:Ins nameP:=fun r=>by
 cases r with
 |nil=>rfl
 |cons x r=>simp only [List.map_cons,nameP,er];split<;>rfl
theorem in_num:Ins numP:=fun r=>by
 cases r with
 |nil=>rfl
 |cons x r=>simp only [List.map_cons,numP,er];split<;>rfl
theorem in_skip {k:Int} {t:ByteArray}:Ins (skip k t):=fun r=>by
 unfold skip
 rw [isT_er]
 split
 ·simp only [Rs.mp,List.map_tail]
 rfl
theorem in_frac:Ins fracP:=in_bnd in_num fun _=>in_bnd in_skip fun _=>in_bnd in_num fun _=>in_pur
theorem in_many {α:Type} {p:P α} {k:Int} {t:ByteArray} (hp:Ins p):∀m,Ins (manyP k t p m)
 |0=>fun r=>by
  simp only [manyP]
  rw [isT_er]
  split<;>rfl
 |m+1=>by
  rw [many_succ]
  exact in_opt (in_bnd hp fun _=>in_bnd (in_many hp m) fun _=>in_pur)
theorem in_sep {α:Type} {p:P α} {m:Nat} (hp:Ins p):Ins (sepP p m):=in_bnd hp fun _=>in_bnd (in_many hp _) fun _=>in_pur
theorem in_unit:Ins unitP:=in_bnd in_name fun _=>in_bnd (in_opt (in_bnd in_frac fun _=>in_bnd in_name fun _=>in_pur)) fun _=>in_bnd in_skip fun _=>in_pur
theorem in_item:Ins itemP:=in_bnd in_name fun _=>in_bnd in_skip fun _=>in_bnd in_name fun _=>in_bnd in_skip fun _=>in_bnd in_frac fun _=>in_bnd (in_opt in_num) fun _=>in_bnd in_skip fun _=>in_pur
theorem in_plant:Ins plantP:=in_bnd in_name fun _=>in_bnd in_skip fun _=>in_pur
theorem in_mach:Ins machP:=in_bnd in_name fun _=>in_bnd in_skip fun _=>in_bnd in_name fun _=>in_bnd in_skip fun _=>in_bnd in_num fun _=>in_bnd in_skip fun _=>in_pur
theorem in_optn:Ins optnP:=in_bnd in_name fun _=>in_bnd in_skip fun _=>in_bnd (in_sep in_name) fun _=>in_bnd in_skip fun _=>in_bnd in_skip fun _=>in_pur
theorem in_cond:Ins condP:=in_bnd in_name fun _=>in_bnd in_skip fun _=>in_bnd in_name fun _=>in_pur
theorem in_forb:Ins forbP:=in_bnd (in_sep in_cond) fun _=>in_bnd in_skip fun _=>in_pur
theorem in_swap:Ins swapP:=in_bnd in_name fun _=>in_bnd in_skip fun _=>in_bnd in_name fun _=>in_bnd in_skip fun _=>in_pur
theorem in_out:Ins outP:=in_bnd in_frac fun _=>in_bnd in_name fun _=>in_bnd in_name fun _=>in_bnd in_skip fun _=>in_pur
theorem in_in:Ins inP:=in_bnd (in_opt in_pur) fun _=>in_bnd in_out fun _=>in_pur
theorem in_run:Ins runP:=in_bnd in_name fun _=>in_bnd in_num fun _=>in_bnd in_skip fun _=>in_pur
theorem in_rec:Ins recP:=in_bnd in_name fun _=>in_bnd in_skip fun _=>in_bnd in_name fun _=>in_bnd in_skip fun _=>in_bnd in_num fun _=>in_bnd in_skip fun _=>in_bnd in_num fun _=>
 in_bnd (in_opt (in_sep in_cond)) fun _=>in_bnd in_skip fun _=>in_bnd (in_many in_in 8) fun _=>in_bnd (in_many in_out 8) fun _=>
 in_bnd in_skip fun _=>in_bnd in_frac fun _=>in_bnd in_skip fun _=>in_bnd in_skip fun _=>in_bnd in_frac fun _=>in_bnd in_skip fun _=>in_bnd in_frac fun _=>
 in_bnd in_skip fun _=>in_bnd in_skip fun _=>in_bnd in_num fun _=>in_bnd in_skip fun _=>in_bnd (in_many in_run 8) fun _=>in_bnd in_skip fun _=>in_pur
theorem in_def (s:SrcV):Ins (defP s):=in_br (in_bnd in_unit fun _=>in_pur)<|in_br (in_bnd in_item fun _=>in_pur)<|in_br (in_bnd in_plant fun _=>in_pur)<|in_br (in_bnd in_mach fun _=>in_pur) <|
 in_br (in_bnd in_optn fun _=>in_pur)<|in_br (in_bnd in_forb fun _=>in_pur)<|in_br (in_bnd in_rec fun _=>in_pur)<|in_br (in_bnd in_swap fun _=>in_pur) fun _=>rfl
theorem in_defs:∀(n:Nat) (s:SrcV),Ins (defsP n s)
 |0,_=>in_pur
 |n+1,s=>fun r=>by
  simp only [defsP]
  by_cases h:r=[]
  ·subst h;rfl
  rw [if_neg h,if_neg (by simpa using h)]
  exact in_bnd (in_def s) (in_defs n) r
theorem readP_er (r:List Tok):readP (r.map er)=(readP r).mp (List.map er):=by
 unfold readP
 rw [List.length_map]
 exact in_defs _ _ r
/-! errors -/
def Er {α:Type} (p:P α):Prop:=∀r r' e,p r=.bad r' e→e=100∨e=2
section
variable {α β:Type} {p:P α} {f:α→P β}
theorem er_bnd (hp:Er p) (hf:∀a,Er (f a)):Er (bnd p f):=fun r r' e h=>by
 rcases bnd_cases h with ⟨a,r1,_,h2⟩|⟨r1,e1,h1,h2⟩
 ·exact hf a _ _ _ h2
 cases h2;exact hp _ _ _ h1
theorem er_pur {a:α}:Er (pur a):=fun _ _ _ h=>by cases h
theorem er_opt {k:Int} {t:ByteArray} {a:α} (hp:Er p):Er (optP k t a p):=fun r r' e h=>by
 unfold optP at h
 split at h
 ·exact hp _ _ _ h
 cases h
theorem er_br {t:ByteArray} {n most:Nat} {q:P α} (hp:Er p) (hq:Er q):Er (brP t n most p q):=fun r r' e h=>by
 unfold brP at h
 split at h
 ·split at h
  ·cases h;exact .inr rfl
  exact hp _ _ _ h
 exact hq _ _ _ h
end
theorem er_name:Er nameP:=fun r r' e h=>by
 cases r with
 |nil=>cases h;exact .inl rfl
 |cons x r=>
  simp only [nameP] at h
  split at h<;>cases h
  exact .inl rfl
theorem er_num:Er numP:=fun r r' e h=>by
 cases r with
 |nil=>cases h;exact .inl rfl
 |cons x r=>
  simp only [numP] at h
  split at h<;>cases h
  exact .inl rfl
theorem er_skip {k:Int} {t:ByteArray}:Er (skip k t):=fun r r' e h=>by
 unfold skip at h
 split at h<;>cases h
 exact .inl rfl
theorem er_frac:Er fracP:=er_bnd er_num fun _=>er_bnd er_skip fun _=>er_bnd er_num fun _=>er_pur
theorem er_many {α:Type} {p:P α} {k:Int} {t:ByteArray} (hp:Er p):∀m,Er (manyP k t p m)
 |0=>fun r r' e h=>by
  simp only [manyP] at h
  split at h<;>cases h
  exact .inr rfl
 |m+1=>by
  rw [many_succ]
  exact er_opt (er_bnd hp fun _=>er_bnd (er_many hp m) fun _=>er_pur)
theorem er_sep {α:Type} {p:P α} {m:Nat} (hp:Er p):Er (sepP p m):=er_bnd hp fun _=>er_bnd (er_many hp _) fun _=>er_pur
theorem er_cond:Er condP:=er_bnd er_name fun _=>er_bnd er_skip fun _=>er_bnd er_name fun _=>er_pur
theorem er_out:Er outP:=er_bnd er_frac fun _=>er_bnd er_name fun _=>er_bnd er_name fun _=>er_bnd er_skip fun _=>er_pur
theorem er_def (s:SrcV):Er (defP s):=
 er_br (er_bnd (er_bnd er_name fun _=>er_bnd (er_opt (er_bnd er_frac fun _=>er_bnd er_name fun _=>er_pur)) fun _=>er_bnd er_skip fun _=>er_pur) fun _=>er_pur) <|
 er_br (er_bnd (er_bnd er_name fun _=>er_bnd er_skip fun _=>er_bnd er_name fun _=>er_bnd er_skip fun _=>er_bnd er_frac fun _=>er_bnd (er_opt er_num) fun _=>er_bnd er_skip fun _=>er_pur) fun _=>er_pur) <|
 er_br (er_bnd (er_bnd er_name fun _=>er_bnd er_skip fun _=>er_pur) fun _=>er_pur) <|
 er_br (er_bnd (er_bnd er_name fun _=>er_bnd er_skip fun _=>er_bnd er_name fun _=>er_bnd er_skip fun _=>er_bnd er_num fun _=>er_bnd er_skip fun _=>er_pur) fun _=>er_pur) <|
 er_br (er_bnd (er_bnd er_name fun _=>er_bnd er_skip fun _=>er_bnd (er_sep er_name) fun _=>er_bnd er_skip fun _=>er_bnd er_skip fun _=>er_pur) fun _=>er_pur) <|
 er_br (er_bnd (er_bnd (er_sep er_cond) fun _=>er_bnd er_skip fun _=>er_pur) fun _=>er_pur) <|
 er_br (er_bnd (er_bnd er_name fun _=>er_bnd er_skip fun _=>er_bnd er_name fun _=>er_bnd er_skip fun _=>er_bnd er_num fun _=>er_bnd er_skip fun _=>er_bnd er_num fun _=>
  er_bnd (er_opt (er_sep er_cond)) fun _=>er_bnd er_skip fun _=>er_bnd (er_many (er_bnd (er_opt er_pur) fun _=>er_bnd er_out fun _=>er_pur) 8) fun _=>er_bnd (er_many er_out 8) fun _=>
  er_bnd er_skip fun _=>er_bnd er_frac fun _=>er_bnd er_skip fun _=>er_bnd er_skip fun _=>er_bnd er_frac fun _=>er_bnd er_skip fun _=>er_bnd er_frac fun _=>
  er_bnd er_skip fun _=>er_bnd er_skip fun _=>er_bnd er_num fun _=>er_bnd er_skip fun _=>er_bnd (er_many (er_bnd er_name fun _=>er_bnd er_num fun _=>er_bnd er_skip fun _=>er_pur) 8) fun _=>er_bnd er_skip fun _=>er_pur) fun _=>er_pur) <|
 er_br (er_bnd (er_bnd er_name fun _=>er_bnd er_skip fun _=>er_bnd er_name fun _=>er_bnd er_skip fun _=>er_pur) fun _=>er_pur) fun r r' e h=>by cases h;exact .inl rfl
theorem er_defs:∀(n:Nat) (s:SrcV),Er (defsP n s)
 |0,_=>er_pur
 |n+1,s=>fun r r' e h=>by
  simp only [defsP] at h
  split at h
  ·cases h
  exact er_bnd (er_def s) (er_defs n) r r' e h
/-! sources behind sources -/
def addS (s t:SrcV):SrcV:=⟨s.units++t.units,s.items++t.items,s.plants++t.plants,s.machines++t.machines,s.options++t.options,s.forbids++t.forbids,s.recipes++t.recipes,s.swaps++t.swaps⟩
structure Fit (s:SrcV):Prop where
 U:s.units.length≤32
 I:s.items.length≤32
 P:s.plants.length≤8
 M:s.machines.length≤16
 O:s.options.length≤6
 F:s.forbids.length≤16
 R:s.recipes.length≤64
 S:s.swaps.length≤32
structure Mor (s t:SrcV):Prop where
 U:s.units.length≤t.units.length
 I:s.items.length≤t.items.length
 P:s.plants.length≤t.plants.length
 M:s.machines.length≤t.machines.length
 O:s.options.length≤t.options.length
 F:s.forbids.length≤t.forbids.length
 R:s.recipes.length≤t.recipes.length
 S:s.swaps.length≤t.swaps.length
theorem Mor.refl (s:SrcV):Mor s s:=⟨Nat.le_refl _,Nat.le_refl _,Nat.le_refl _,Nat.le_refl _,Nat.le_refl _,Nat.le_refl _,Nat.le_refl _,Nat.le_refl _⟩
theorem Mor.trans {s t u:SrcV} (a:Mor s t) (b:Mor t u):Mor s u:=⟨Nat.le_trans a.U b.U,Nat.le_trans a.I b.I,Nat.le_trans a.P b.P,Nat.le_trans a.M b.M,Nat.le_trans a.O b.O,Nat.le_trans a.F b.F,Nat.le_trans a.R b.R,Nat.le_trans a.S b.S⟩
structure JoinP (x:SrcV) (p q:P SrcV) (t:SrcV):Prop where
 ok:∀r u r',p r=.ok u r'→Mor t u∧(q r=.ok (addS x u) r'∨(q r=.bad r 2 ∧ ¬Fit (addS x u)))
theorem join_br {x t:SrcV} {w:ByteArray} {n m most:Nat} {p p' q q':P SrcV} (hp:∀r u r',p r=.ok u r'→Mor t u∧p' r=.ok (addS x u) r'∧(most≤m → ¬Fit (addS x u))) (hnm:n≤m) (hq:JoinP x q q' t):JoinP x (brP w n most p q) (brP w m most p' q') t:=⟨fun r u r' h=>by
 unfold brP at h ⊢
 split at h
 ·rename_i hw
  rw [if_pos hw]
  split at h
  ·cases h
  obtain ⟨h1,h2,h3⟩:=hp _ _ _ h
  refine ⟨h1,?_⟩
  split
  ·exact .inr ⟨rfl,h3 (by assumption)⟩
  exact .inl h2
 rename_i hw
 rw [if_neg hw]
 exact hq.ok _ _ _ h⟩
theorem join_end {α:Type} {p:P α} {f g:α→SrcV} {r r':List Tok} {u:SrcV} (h:bnd p (fun a=>pur (f a)) r=.ok u r'):∃a,u=f a∧bnd p (fun a=>pur (g a)) r=.ok (g a) r':=by
 rcases bnd_cases h with ⟨a,r1,h1,h2⟩|⟨r1,e,_,h2⟩
 ·have h2:(Rs.ok (f a) r1:Rs SrcV)=.ok u r':=h2
  cases h2
  exact ⟨a,rfl,bnd_ok h1⟩
 cases h2
theorem join_def (x t:SrcV):JoinP x (defP t) (defP (addS x t)) t:=by
 have l1:=Nat.le_refl
 have M:=Mor.refl t
 unfold defP
 refine join_br (fun r u r' h=>?_) (by simp [addS])<|join_br (fun r u r' h=>?_) (by simp [addS])<|join_br (fun r u r' h=>?_) (by simp [addS])<|join_br (fun r u r' h=>?_) (by simp [addS]) <|
  join_br (fun r u r' h=>?_) (by simp [addS])<|join_br (fun r u r' h=>?_) (by simp [addS])<|join_br (fun r u r' h=>?_) (by simp [addS])<|join_br (fun r u r' h=>?_) (by simp [addS]) ⟨fun r u r' h=>by cases h⟩
 ·obtain ⟨a,rfl,e⟩:=join_end (g:=fun a=>{addS x t with units:=(addS x t).units++[a]}) h
  exact ⟨{M with U:=by simp},by rw [e];simp [addS],fun hm F=>by have:=F.U;simp [addS] at this hm;omega⟩
 ·obtain ⟨a,rfl,e⟩:=join_end (g:=fun a=>{addS x t with items:=(addS x t).items++[a]}) h
  exact ⟨{M with I:=by simp},by rw [e];simp [addS],fun hm F=>by have:=F.I;simp [addS] at this hm;omega⟩
 ·obtain ⟨a,rfl,e⟩:=join_end (g:=fun a=>{addS x t with plants:=(addS x t).plants++[a]}) h
  exact ⟨{M with P:=by simp},by rw [e];simp [addS],fun hm F=>by have:=F.P;simp [addS] at this hm;omega⟩
 ·obtain ⟨a,rfl,e⟩:=join_end (g:=fun a=>{addS x t with machines:=(addS x t).machines++[a]}) h
  exact ⟨{M with M:=by simp},by rw [e];simp [addS],fun hm F=>by have:=F.M;simp [addS] at this hm;omega⟩
 ·obtain ⟨a,rfl,e⟩:=join_end (g:=fun a=>{addS x t with options:=(addS x t).options++[a]}) h
  exact ⟨{M with O:=by simp},by rw [e];simp [addS],fun hm F=>by have:=F.O;simp [addS] at this hm;omega⟩
 ·obtain ⟨a,rfl,e⟩:=join_end (g:=fun a=>{addS x t with forbids:=(addS x t).forbids++[a]}) h
  exact ⟨{M with F:=by simp},by rw [e];simp [addS],fun hm F=>by have:=F.F;simp [addS] at this hm;omega⟩
 ·obtain ⟨a,rfl,e⟩:=join_end (g:=fun a=>{addS x t with recipes:=(addS x t).recipes++[a]}) h
  exact ⟨{M with R:=by simp},by rw [e];simp [addS],fun hm F=>by have:=F.R;simp [addS] at this hm;omega⟩
 obtain ⟨a,rfl,e⟩:=join_end (g:=fun a=>{addS x t with swaps:=(addS x t).swaps++[a]}) h
 exact ⟨{M with S:=by simp},by rw [e];simp [addS],fun hm F=>by have:=F.S;simp [addS] at this hm;omega⟩
theorem Fit.mor {x t u:SrcV} (m:Mor t u) (F:Fit (addS x u)):Fit (addS x t):=by
 obtain ⟨a,b,c,d,e,f,g,h⟩:=F
 obtain ⟨a',b',c',d',e',f',g',h'⟩:=m
 simp only [addS,List.length_append] at a b c d e f g h
 constructor<;>simp only [addS,List.length_append]<;>omega
theorem join_defs (x:SrcV):∀(n:Nat) (t:SrcV) (r:List Tok) (y:SrcV) (r':List Tok),r.length<n→defsP n t r=.ok y r'→Mor t y∧(defsP n (addS x t) r=.ok (addS x y) r' ∨ ∃z r1,r=z++r1∧r1 ≠ []∧defsP n (addS x t) r=.bad r1 2 ∧ ¬Fit (addS x y))
 |0,_,_,_,_,h,_=>absurd h (Nat.not_lt_zero _)
 |n+1,t,r,y,r',hn,h=>by
  simp only [defsP] at h ⊢
  by_cases h0:r=[]
  ·rw [if_pos h0] at h ⊢
   cases h
   exact ⟨Mor.refl _,.inl rfl⟩
  rw [if_neg h0] at h ⊢
  rcases bnd_cases h with ⟨u,r1,h1,h2⟩|⟨r1,e,_,h2⟩
  ·have he:=(def_g t).e _ _ _ h1
   have hs:=(def_g t).g.suf _ _ _ h1
   obtain ⟨m1,h3⟩:=(join_def x t).ok _ _ _ h1
   obtain ⟨m2,h4⟩:=join_defs x n u r1 y r' (by omega) h2
   refine ⟨m1.trans m2,?_⟩
   rcases h3 with h3|⟨h3,h5⟩
   ·rw [bnd_ok h3]
    rcases h4 with h4|⟨z,r2,e1,e2,e3,e4⟩
    ·exact .inl h4
    obtain ⟨z0,hz⟩:=hs
    exact .inr ⟨z0++z,r2,by rw [List.append_assoc,←e1,hz],e2,e3,e4⟩
   rw [bnd_bad h3]
   exact .inr ⟨[],r,rfl,h0,rfl,fun F=>h5 (F.mor m2)⟩
  cases h2
end Go.SynM

namespace Go.Proofs.YtgbeechjghajcaaGreatDoor
open Go Go.Fw
theorem lex_take:∀(n:Nat) (b:Bs) (p:Nat) (A:List (Nat×Tk)) (q:Nat) (t:Tk) (R:List (Nat×Tk)),b.length=n→lexS b p=.inl (A++(q,t)::R)→lexS (b.take (q - p)) p=.inl A:=by
 intro n
 induction n using Nat.strongRecOn with
 |_ n ih=>
  intro b p A q t R hn h
  have hb:b ≠ []:=fun e=>by
   rw [e,lexS_nil] at h
   have:=Sum.inl.inj h
   simp at this
  have hin:=lex_in n b p _ hn h (q,t) (by simp)
  rw [lexS_cons hb] at h
  split at h
  ·cases h
  rename_i t0 k hk
  have hok:=stepS_ok hk
  split at h
  ·cases h
  rename_i l' hl
  have h:=Sum.inl.inj h
  have key:∀A',l'=A'++(q,t)::R→A=addTk p t0 A'→lexS (b.take (q - p)) p=.inl A:=fun A' e1 e2=>by
   have hq:=lex_in (b.drop k).length (b.drop k) (p+k) l' rfl hl (q,t) (by rw [e1];simp)
   have hne:b.take (q - p) ≠ []:=fun e=>by
    have:=congrArg List.length e
    rw [List.length_take,List.length_nil] at this
    omega
   have:=ih (b.drop k).length (by rw [List.length_drop];omega) (b.drop k) (p+k) A' q t R rfl (by rw [hl,e1])
   rw [lexS_cons hne,step_take hk (by omega)]
   simp only
   rw [List.drop_take,show q - p - k=q - (p+k) by omega,this,e2]
  cases t0 with
  |none=>exact key A h rfl
  |some t1=>
   cases A with
   |nil=>
    have h:=List.cons.inj h
    have hq:q=p:=(Prod.mk.inj h.1).1.symm
    rw [hq,Nat.sub_self,List.take_zero,lexS_nil]
   |cons a A=>
    have h:=List.cons.inj h
    exact key A h.2 (by rw [←h.1];rfl)
end Go.Proofs.YtgbeechjghajcaaGreatDoor
