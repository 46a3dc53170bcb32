/- Texts of this seat, joined: The table of types that the walk asks. Written by a program off the translation. Package lex: the scanner's own walks. Pac -/
import Derived.Test.YtgbeechjghajcaaGreatDoorJoinB
import Derived.Test.YtgbeechjghajcaaGreatDoorChecked
import Derived.Shelf.Lays
import Derived.Shelf.LaysM
import Derived.Shelf.Strings.BuilderX
import Derived.Shelf.Strings.OnBuilder
import Derived.Shelf.Strings.Search3
import Derived.Shelf.Strconv.Itoa3
import Derived.Below
set_option linter.unusedVariables false
set_option linter.unusedSimpArgs false
namespace Go.Proofs.YtgbeechjghajcaaGreatDoor
open Go Go.Fw
set_option maxRecDepth 100000
def tabU:List (Nat×UD):=[(1,.func),
(2,.int .i64),
(3,.int .i64),
(4,.bool),
(5,.int .u8),
(6,.int .u8),
(7,.struct [(0,1,false),(1,1,false),(2,1,false),(3,1,false)]),
(8,.struct [(0,1,false),(1,1,false),(2,1,false),(3,1,false)]),
(9,.str),
(10,.str),
(11,.str),
(12,.int .u64),
(13,.struct [(0,1,false),(1,1,false)]),
(14,.struct [(0,1,false),(1,1,false)]),
(15,.ptr),
(16,.ptr),
(17,.ptr),
(18,.struct [(0,1,false)]),
(19,.struct [(0,1,false)]),
(20,.iface),
(21,.int .i32),
(22,.func),
(23,.slice 81 8),
(24,.slice 83 6),
(25,.slice 9 1),
(26,.slice 85 4),
(27,.slice 50 2),
(28,.slice 53 1),
(29,.slice 61 17),
(30,.slice 89 4),
(31,.struct [(0,1,false),(1,1,false),(2,1,false),(3,1,false),(4,1,false),(5,1,false),(6,1,false),(7,1,false)]),
(32,.struct [(0,1,false),(1,1,false),(2,1,false),(3,1,false),(4,1,false),(5,1,false),(6,1,false),(7,1,false)]),
(33,.int .i64),
(35,.func),
(37,.func),
(38,.func),
(41,.func),
(42,.slice 47 4),
(45,.func),
(47,.struct [(0,1,false),(1,1,false),(2,1,false),(3,1,false)]),
(48,.func),
(49,.struct [(0,1,false),(1,1,false)]),
(50,.struct [(0,1,false),(1,1,false)]),
(51,.struct [(0,1,false),(1,1,false),(2,1,false),(3,1,false)]),
(52,.struct [(0,1,false),(1,1,false),(2,1,false),(3,1,false)]),
(53,.slice 52 4),
(55,.struct [(0,1,false),(1,1,false),(2,1,false),(3,1,false),(4,1,false),(5,1,false),(6,1,false)]),
(56,.slice 55 7),
(58,.struct [(0,1,false),(1,1,false),(2,1,false)]),
(59,.slice 58 3),
(61,.struct [(0,1,false),(1,1,false),(2,1,false),(3,1,false),(4,1,false),(5,1,false),(6,1,false),(7,1,false),(8,1,false),(9,1,false),(10,1,false),(11,1,false),(12,1,false),(13,1,false),(14,1,false),(15,1,false),(16,1,false)]),
(62,.struct [(0,1,false),(1,1,false)]),
(63,.struct [(0,1,false),(1,1,false)]),
(65,.ptr),
(67,.struct [(0,1,false),(1,1,false),(2,1,false),(3,8,true)]),
(68,.map),
(70,.func),
(72,.func),
(73,.struct [(0,1,false),(1,1,false),(2,1,false),(3,1,false),(4,1,false)]),
(74,.struct [(0,1,false),(1,1,false),(2,1,false),(3,1,false),(4,1,false)]),
(79,.struct [(0,1,false),(1,1,false),(2,1,false)]),
(80,.struct [(0,1,false),(1,1,false),(2,1,false),(3,1,false),(4,1,false),(5,3,true)]),
(81,.struct [(0,1,false),(1,1,false),(2,1,false),(3,1,false),(4,1,false),(5,3,true)]),
(83,.struct [(0,1,false),(1,1,false),(2,1,false),(3,1,false),(4,1,false),(5,1,false)]),
(85,.struct [(0,1,false),(1,1,false),(2,1,false),(3,1,false)]),
(86,.func),
(87,.func),
(88,.struct [(0,1,false),(1,1,false),(2,1,false),(3,1,false)]),
(89,.struct [(0,1,false),(1,1,false),(2,1,false),(3,1,false)]),
(91,.struct [(0,1,false),(1,1,false)]),
(96,.func),
(97,.func),
(98,.func),
(104,.int .i64),
(106,.ptr),
(107,.array 256 3 1),
(109,.func),
(110,.array 5 109 1),
(111,.struct [(0,1,false),(1,1,false),(2,256,true),(258,5,true),(263,1,false)]),
(112,.struct [(0,1,false),(1,1,false),(2,256,true),(258,5,true),(263,1,false)]),
(117,.ptr),
(118,.func),
(119,.func),
(120,.func),
(121,.ptr),
(122,.func),
(123,.func),
(125,.ptr),
(126,.func),
(127,.func),
(129,.ptr),
(130,.func),
(131,.func),
(132,.func),
(133,.ptr),
(134,.func),
(136,.func),
(137,.ptr),
(138,.func),
(139,.func),
(141,.ptr),
(142,.func),
(145,.ptr),
(146,.func),
(153,.ptr),
(154,.func),
(157,.str),
(161,.slice 47 4),
(169,.array 11 3 1),
(170,.func),
(173,.array 4 5 1),
(177,.slice 5 1),
(179,.struct [(0,1,false),(1,1,false)]),
(192,.func),
(195,.func),
(198,.func),
(220,.slice 20 1),
(229,.ptr),
(231,.ptr),
(233,.ptr)]
theorem tabU_ok:AllU Tryz.prog tabU:=aRE (by kernel_rfl)
def tabI:List (Nat×Inf):=[(1,⟨.nilFunc,1,8⟩),
(2,⟨.int .i64 0,1,8⟩),
(3,⟨.int .i64 0,1,8⟩),
(4,⟨.bool false,1,1⟩),
(5,⟨.int .u8 0,1,1⟩),
(6,⟨.int .u8 0,1,1⟩),
(7,⟨.agg #[.int .i64 0,.int .i64 0,.bool false,.int .u8 0],4,24⟩),
(8,⟨.agg #[.int .i64 0,.int .i64 0,.bool false,.int .u8 0],4,24⟩),
(9,⟨.string ⟨#[]⟩,1,16⟩),
(10,⟨.string ⟨#[]⟩,1,16⟩),
(11,⟨.string ⟨#[]⟩,1,16⟩),
(12,⟨.int .u64 0,1,8⟩),
(13,⟨.agg #[.string ⟨#[]⟩,.int .u64 0],2,24⟩),
(14,⟨.agg #[.string ⟨#[]⟩,.int .u64 0],2,24⟩),
(15,⟨.pointer none,1,8⟩),
(16,⟨.pointer none,1,8⟩),
(17,⟨.pointer none,1,8⟩),
(18,⟨.agg #[.pointer none],1,8⟩),
(19,⟨.agg #[.pointer none],1,8⟩),
(20,⟨.nilIface,1,16⟩),
(21,⟨.int .i32 0,1,4⟩),
(22,⟨.nilFunc,1,8⟩),
(23,⟨.slice none 0 0,1,24⟩),
(24,⟨.slice none 0 0,1,24⟩),
(25,⟨.slice none 0 0,1,24⟩),
(26,⟨.slice none 0 0,1,24⟩),
(27,⟨.slice none 0 0,1,24⟩),
(28,⟨.slice none 0 0,1,24⟩),
(29,⟨.slice none 0 0,1,24⟩),
(30,⟨.slice none 0 0,1,24⟩),
(31,⟨.agg #[.slice none 0 0,.slice none 0 0,.slice none 0 0,.slice none 0 0,.slice none 0 0,.slice none 0 0,.slice none 0 0,.slice none 0 0],8,192⟩),
(32,⟨.agg #[.slice none 0 0,.slice none 0 0,.slice none 0 0,.slice none 0 0,.slice none 0 0,.slice none 0 0,.slice none 0 0,.slice none 0 0],8,192⟩),
(33,⟨.int .i64 0,1,8⟩),
(35,⟨.nilFunc,1,8⟩),
(37,⟨.nilFunc,1,8⟩),
(38,⟨.nilFunc,1,8⟩),
(41,⟨.nilFunc,1,8⟩),
(42,⟨.slice none 0 0,1,24⟩),
(45,⟨.nilFunc,1,8⟩),
(47,⟨.agg #[.int .i64 0,.int .i64 0,.string ⟨#[]⟩,.int .i64 0],4,40⟩),
(48,⟨.nilFunc,1,8⟩),
(49,⟨.agg #[.string ⟨#[]⟩,.slice none 0 0],2,40⟩),
(50,⟨.agg #[.string ⟨#[]⟩,.slice none 0 0],2,40⟩),
(51,⟨.agg #[.string ⟨#[]⟩,.string ⟨#[]⟩,.int .i64 0,.int .i64 0],4,48⟩),
(52,⟨.agg #[.string ⟨#[]⟩,.string ⟨#[]⟩,.int .i64 0,.int .i64 0],4,48⟩),
(53,⟨.slice none 0 0,1,24⟩),
(55,⟨.agg #[.int .i64 0,.int .i64 0,.string ⟨#[]⟩,.string ⟨#[]⟩,.bool false,.int .i64 0,.int .i64 0],7,72⟩),
(56,⟨.slice none 0 0,1,24⟩),
(58,⟨.agg #[.string ⟨#[]⟩,.int .i64 0,.int .i64 0],3,32⟩),
(59,⟨.slice none 0 0,1,24⟩),
(61,⟨.agg #[.string ⟨#[]⟩,.string ⟨#[]⟩,.int .i64 0,.int .i64 0,.slice none 0 0,.slice none 0 0,.slice none 0 0,.int .i64 0,.int .i64 0,.int .i64 0,.int .i64 0,.int .i64 0,.int .i64 0,.int .i64 0,.slice none 0 0,.int .i64 0,.int .i64 0],17,216⟩),
(62,⟨.agg #[.int .i64 0,.int .i64 0],2,16⟩),
(63,⟨.agg #[.int .i64 0,.int .i64 0],2,16⟩),
(65,⟨.pointer none,1,8⟩),
(67,⟨.agg #[.string ⟨#[]⟩,.slice none 0 0,.int .i64 0,.slice none 0 0,.slice none 0 0,.slice none 0 0,.slice none 0 0,.slice none 0 0,.slice none 0 0,.slice none 0 0,.slice none 0 0],11,240⟩),
(68,⟨.map none,1,8⟩),
(70,⟨.nilFunc,1,8⟩),
(72,⟨.nilFunc,1,8⟩),
(73,⟨.agg #[.slice none 0 0,.int .i64 0,.int .i64 0,.int .i64 0,.int .i64 0],5,56⟩),
(74,⟨.agg #[.slice none 0 0,.int .i64 0,.int .i64 0,.int .i64 0,.int .i64 0],5,56⟩),
(79,⟨.agg #[.bool false,.string ⟨#[]⟩,.string ⟨#[]⟩],3,40⟩),
(80,⟨.agg #[.string ⟨#[]⟩,.string ⟨#[]⟩,.int .i64 0,.int .i64 0,.int .i64 0,.bool false,.string ⟨#[]⟩,.string ⟨#[]⟩],8,96⟩),
(81,⟨.agg #[.string ⟨#[]⟩,.string ⟨#[]⟩,.int .i64 0,.int .i64 0,.int .i64 0,.bool false,.string ⟨#[]⟩,.string ⟨#[]⟩],8,96⟩),
(83,⟨.agg #[.string ⟨#[]⟩,.string ⟨#[]⟩,.int .i64 0,.int .i64 0,.int .i64 0,.int .i64 0],6,64⟩),
(85,⟨.agg #[.string ⟨#[]⟩,.string ⟨#[]⟩,.int .i64 0,.int .i64 0],4,48⟩),
(86,⟨.nilFunc,1,8⟩),
(87,⟨.nilFunc,1,8⟩),
(88,⟨.agg #[.string ⟨#[]⟩,.string ⟨#[]⟩,.int .i64 0,.int .i64 0],4,48⟩),
(89,⟨.agg #[.string ⟨#[]⟩,.string ⟨#[]⟩,.int .i64 0,.int .i64 0],4,48⟩),
(91,⟨.agg #[.slice none 0 0,.bool false],2,32⟩),
(96,⟨.nilFunc,1,8⟩),
(97,⟨.nilFunc,1,8⟩),
(98,⟨.nilFunc,1,8⟩),
(104,⟨.int .i64 0,1,8⟩),
(106,⟨.pointer none,1,8⟩),
(107,⟨.agg #[.int .i64 0,.int .i64 0,.int .i64 0,.int .i64 0,.int .i64 0,.int .i64 0,.int .i64 0,.int .i64 0,.int .i64 0,.int .i64 0,.int .i64 0,.int .i64 0,.int .i64 0,.int .i64 0,.int .i64 0,.int .i64 0,.int .i64 0,.int .i64 0,.int .i64 0,.int .i64 0,.int .i64 0,.int .i64 0,.int .i64 0,.int .i64 0,.int .i64 0,.int .i64 0,.int .i64 0,.int .i64 0,.int .i64 0,.int .i64 0,.int .i64 0,.int .i64 0,.int .i64 0,.int .i64 0,.int .i64 0,.int .i64 0,.int .i64 0,.int .i64 0,.int .i64 0,.int .i64 0,.int .i64 0,.int .i64 0,.int .i64 0,.int .i64 0,.int .i64 0,.int .i64 0,.int .i64 0,.int .i64 0,.int .i64 0,.int .i64 0,.int .i64 0,.int .i64 0,.int .i64 0,.int .i64 0,.int .i64 0,.int .i64 0,.int .i64 0,.int .i64 0,.int .i64 0,.int .i64 0,.int .i64 0,.int .i64 0,.int .i64 0,.int .i64 0,.int .i64 0,.int .i64 0,.int .i64 0,.int .i64 0,.int .i64 0,.int .i64 0,.int .i64 0,.int .i64 0,.int .i64 0,.int .i64 0,.int .i64 0,.int .i64 0,.int .i64 0,.int .i64 0,.int .i64 0,.int .i64 0,.int .i64 0,.int .i64 0,.int .i64 0,.int .i64 0,.int .i64 0,.int .i64 0,.int .i64 0,.int .i64 0,.int .i64 0,.int .i64 0,.int .i64 0,.int .i64 0,.int .i64 0,.int .i64 0,.int .i64 0,.int .i64 0,.int .i64 0,.int .i64 0,.int .i64 0,.int .i64 0,.int .i64 0,.int .i64 0,.int .i64 0,.int .i64 0,.int .i64 0,.int .i64 0,.int .i64 0,.int .i64 0,.int .i64 0,.int .i64 0,.int .i64 0,.int .i64 0,.int .i64 0,.int .i64 0,.int .i64 0,.int .i64 0,.int .i64 0,.int .i64 0,.int .i64 0,.int .i64 0,.int .i64 0,.int .i64 0,.int .i64 0,.int .i64 0,.int .i64 0,.int .i64 0,.int .i64 0,.int .i64 0,.int .i64 0,.int .i64 0,.int .i64 0,.int .i64 0,.int .i64 0,.int .i64 0,.int .i64 0,.int .i64 0,.int .i64 0,.int .i64 0,.int .i64 0,.int .i64 0,.int .i64 0,.int .i64 0,.int .i64 0,.int .i64 0,.int .i64 0,.int .i64 0,.int .i64 0,.int .i64 0,.int .i64 0,.int .i64 0,.int .i64 0,.int .i64 0,.int .i64 0,.int .i64 0,.int .i64 0,.int .i64 0,.int .i64 0,.int .i64 0,.int .i64 0,.int .i64 0,.int .i64 0,.int .i64 0,.int .i64 0,.int .i64 0,.int .i64 0,.int .i64 0,.int .i64 0,.int .i64 0,.int .i64 0,.int .i64 0,.int .i64 0,.int .i64 0,.int .i64 0,.int .i64 0,.int .i64 0,.int .i64 0,.int .i64 0,.int .i64 0,.int .i64 0,.int .i64 0,.int .i64 0,.int .i64 0,.int .i64 0,.int .i64 0,.int .i64 0,.int .i64 0,.int .i64 0,.int .i64 0,.int .i64 0,.int .i64 0,.int .i64 0,.int .i64 0,.int .i64 0,.int .i64 0,.int .i64 0,.int .i64 0,.int .i64 0,.int .i64 0,.int .i64 0,.int .i64 0,.int .i64 0,.int .i64 0,.int .i64 0,.int .i64 0,.int .i64 0,.int .i64 0,.int .i64 0,.int .i64 0,.int .i64 0,.int .i64 0,.int .i64 0,.int .i64 0,.int .i64 0,.int .i64 0,.int .i64 0,.int .i64 0,.int .i64 0,.int .i64 0,.int .i64 0,.int .i64 0,.int .i64 0,.int .i64 0,.int .i64 0,.int .i64 0,.int .i64 0,.int .i64 0,.int .i64 0,.int .i64 0,.int .i64 0,.int .i64 0,.int .i64 0,.int .i64 0,.int .i64 0,.int .i64 0,.int .i64 0,.int .i64 0,.int .i64 0,.int .i64 0,.int .i64 0,.int .i64 0,.int .i64 0,.int .i64 0,.int .i64 0,.int .i64 0,.int .i64 0,.int .i64 0,.int .i64 0,.int .i64 0,.int .i64 0,.int .i64 0,.int .i64 0,.int .i64 0,.int .i64 0,.int .i64 0,.int .i64 0,.int .i64 0],256,2048⟩),
(109,⟨.nilFunc,1,8⟩),
(110,⟨.agg #[.nilFunc,.nilFunc,.nilFunc,.nilFunc,.nilFunc],5,40⟩),
(111,⟨.agg #[.string ⟨#[]⟩,.int .i64 0,.int .i64 0,.int .i64 0,.int .i64 0,.int .i64 0,.int .i64 0,.int .i64 0,.int .i64 0,.int .i64 0,.int .i64 0,.int .i64 0,.int .i64 0,.int .i64 0,.int .i64 0,.int .i64 0,.int .i64 0,.int .i64 0,.int .i64 0,.int .i64 0,.int .i64 0,.int .i64 0,.int .i64 0,.int .i64 0,.int .i64 0,.int .i64 0,.int .i64 0,.int .i64 0,.int .i64 0,.int .i64 0,.int .i64 0,.int .i64 0,.int .i64 0,.int .i64 0,.int .i64 0,.int .i64 0,.int .i64 0,.int .i64 0,.int .i64 0,.int .i64 0,.int .i64 0,.int .i64 0,.int .i64 0,.int .i64 0,.int .i64 0,.int .i64 0,.int .i64 0,.int .i64 0,.int .i64 0,.int .i64 0,.int .i64 0,.int .i64 0,.int .i64 0,.int .i64 0,.int .i64 0,.int .i64 0,.int .i64 0,.int .i64 0,.int .i64 0,.int .i64 0,.int .i64 0,.int .i64 0,.int .i64 0,.int .i64 0,.int .i64 0,.int .i64 0,.int .i64 0,.int .i64 0,.int .i64 0,.int .i64 0,.int .i64 0,.int .i64 0,.int .i64 0,.int .i64 0,.int .i64 0,.int .i64 0,.int .i64 0,.int .i64 0,.int .i64 0,.int .i64 0,.int .i64 0,.int .i64 0,.int .i64 0,.int .i64 0,.int .i64 0,.int .i64 0,.int .i64 0,.int .i64 0,.int .i64 0,.int .i64 0,.int .i64 0,.int .i64 0,.int .i64 0,.int .i64 0,.int .i64 0,.int .i64 0,.int .i64 0,.int .i64 0,.int .i64 0,.int .i64 0,.int .i64 0,.int .i64 0,.int .i64 0,.int .i64 0,.int .i64 0,.int .i64 0,.int .i64 0,.int .i64 0,.int .i64 0,.int .i64 0,.int .i64 0,.int .i64 0,.int .i64 0,.int .i64 0,.int .i64 0,.int .i64 0,.int .i64 0,.int .i64 0,.int .i64 0,.int .i64 0,.int .i64 0,.int .i64 0,.int .i64 0,.int .i64 0,.int .i64 0,.int .i64 0,.int .i64 0,.int .i64 0,.int .i64 0,.int .i64 0,.int .i64 0,.int .i64 0,.int .i64 0,.int .i64 0,.int .i64 0,.int .i64 0,.int .i64 0,.int .i64 0,.int .i64 0,.int .i64 0,.int .i64 0,.int .i64 0,.int .i64 0,.int .i64 0,.int .i64 0,.int .i64 0,.int .i64 0,.int .i64 0,.int .i64 0,.int .i64 0,.int .i64 0,.int .i64 0,.int .i64 0,.int .i64 0,.int .i64 0,.int .i64 0,.int .i64 0,.int .i64 0,.int .i64 0,.int .i64 0,.int .i64 0,.int .i64 0,.int .i64 0,.int .i64 0,.int .i64 0,.int .i64 0,.int .i64 0,.int .i64 0,.int .i64 0,.int .i64 0,.int .i64 0,.int .i64 0,.int .i64 0,.int .i64 0,.int .i64 0,.int .i64 0,.int .i64 0,.int .i64 0,.int .i64 0,.int .i64 0,.int .i64 0,.int .i64 0,.int .i64 0,.int .i64 0,.int .i64 0,.int .i64 0,.int .i64 0,.int .i64 0,.int .i64 0,.int .i64 0,.int .i64 0,.int .i64 0,.int .i64 0,.int .i64 0,.int .i64 0,.int .i64 0,.int .i64 0,.int .i64 0,.int .i64 0,.int .i64 0,.int .i64 0,.int .i64 0,.int .i64 0,.int .i64 0,.int .i64 0,.int .i64 0,.int .i64 0,.int .i64 0,.int .i64 0,.int .i64 0,.int .i64 0,.int .i64 0,.int .i64 0,.int .i64 0,.int .i64 0,.int .i64 0,.int .i64 0,.int .i64 0,.int .i64 0,.int .i64 0,.int .i64 0,.int .i64 0,.int .i64 0,.int .i64 0,.int .i64 0,.int .i64 0,.int .i64 0,.int .i64 0,.int .i64 0,.int .i64 0,.int .i64 0,.int .i64 0,.int .i64 0,.int .i64 0,.int .i64 0,.int .i64 0,.int .i64 0,.int .i64 0,.int .i64 0,.int .i64 0,.int .i64 0,.int .i64 0,.int .i64 0,.int .i64 0,.int .i64 0,.int .i64 0,.int .i64 0,.int .i64 0,.int .i64 0,.int .i64 0,.int .i64 0,.int .i64 0,.int .i64 0,.int .i64 0,.int .i64 0,.int .i64 0,.int .i64 0,.int .i64 0,.nilFunc,.nilFunc,.nilFunc,.nilFunc,.nilFunc,.slice none 0 0],264,2136⟩),
(112,⟨.agg #[.string ⟨#[]⟩,.int .i64 0,.int .i64 0,.int .i64 0,.int .i64 0,.int .i64 0,.int .i64 0,.int .i64 0,.int .i64 0,.int .i64 0,.int .i64 0,.int .i64 0,.int .i64 0,.int .i64 0,.int .i64 0,.int .i64 0,.int .i64 0,.int .i64 0,.int .i64 0,.int .i64 0,.int .i64 0,.int .i64 0,.int .i64 0,.int .i64 0,.int .i64 0,.int .i64 0,.int .i64 0,.int .i64 0,.int .i64 0,.int .i64 0,.int .i64 0,.int .i64 0,.int .i64 0,.int .i64 0,.int .i64 0,.int .i64 0,.int .i64 0,.int .i64 0,.int .i64 0,.int .i64 0,.int .i64 0,.int .i64 0,.int .i64 0,.int .i64 0,.int .i64 0,.int .i64 0,.int .i64 0,.int .i64 0,.int .i64 0,.int .i64 0,.int .i64 0,.int .i64 0,.int .i64 0,.int .i64 0,.int .i64 0,.int .i64 0,.int .i64 0,.int .i64 0,.int .i64 0,.int .i64 0,.int .i64 0,.int .i64 0,.int .i64 0,.int .i64 0,.int .i64 0,.int .i64 0,.int .i64 0,.int .i64 0,.int .i64 0,.int .i64 0,.int .i64 0,.int .i64 0,.int .i64 0,.int .i64 0,.int .i64 0,.int .i64 0,.int .i64 0,.int .i64 0,.int .i64 0,.int .i64 0,.int .i64 0,.int .i64 0,.int .i64 0,.int .i64 0,.int .i64 0,.int .i64 0,.int .i64 0,.int .i64 0,.int .i64 0,.int .i64 0,.int .i64 0,.int .i64 0,.int .i64 0,.int .i64 0,.int .i64 0,.int .i64 0,.int .i64 0,.int .i64 0,.int .i64 0,.int .i64 0,.int .i64 0,.int .i64 0,.int .i64 0,.int .i64 0,.int .i64 0,.int .i64 0,.int .i64 0,.int .i64 0,.int .i64 0,.int .i64 0,.int .i64 0,.int .i64 0,.int .i64 0,.int .i64 0,.int .i64 0,.int .i64 0,.int .i64 0,.int .i64 0,.int .i64 0,.int .i64 0,.int .i64 0,.int .i64 0,.int .i64 0,.int .i64 0,.int .i64 0,.int .i64 0,.int .i64 0,.int .i64 0,.int .i64 0,.int .i64 0,.int .i64 0,.int .i64 0,.int .i64 0,.int .i64 0,.int .i64 0,.int .i64 0,.int .i64 0,.int .i64 0,.int .i64 0,.int .i64 0,.int .i64 0,.int .i64 0,.int .i64 0,.int .i64 0,.int .i64 0,.int .i64 0,.int .i64 0,.int .i64 0,.int .i64 0,.int .i64 0,.int .i64 0,.int .i64 0,.int .i64 0,.int .i64 0,.int .i64 0,.int .i64 0,.int .i64 0,.int .i64 0,.int .i64 0,.int .i64 0,.int .i64 0,.int .i64 0,.int .i64 0,.int .i64 0,.int .i64 0,.int .i64 0,.int .i64 0,.int .i64 0,.int .i64 0,.int .i64 0,.int .i64 0,.int .i64 0,.int .i64 0,.int .i64 0,.int .i64 0,.int .i64 0,.int .i64 0,.int .i64 0,.int .i64 0,.int .i64 0,.int .i64 0,.int .i64 0,.int .i64 0,.int .i64 0,.int .i64 0,.int .i64 0,.int .i64 0,.int .i64 0,.int .i64 0,.int .i64 0,.int .i64 0,.int .i64 0,.int .i64 0,.int .i64 0,.int .i64 0,.int .i64 0,.int .i64 0,.int .i64 0,.int .i64 0,.int .i64 0,.int .i64 0,.int .i64 0,.int .i64 0,.int .i64 0,.int .i64 0,.int .i64 0,.int .i64 0,.int .i64 0,.int .i64 0,.int .i64 0,.int .i64 0,.int .i64 0,.int .i64 0,.int .i64 0,.int .i64 0,.int .i64 0,.int .i64 0,.int .i64 0,.int .i64 0,.int .i64 0,.int .i64 0,.int .i64 0,.int .i64 0,.int .i64 0,.int .i64 0,.int .i64 0,.int .i64 0,.int .i64 0,.int .i64 0,.int .i64 0,.int .i64 0,.int .i64 0,.int .i64 0,.int .i64 0,.int .i64 0,.int .i64 0,.int .i64 0,.int .i64 0,.int .i64 0,.int .i64 0,.int .i64 0,.int .i64 0,.int .i64 0,.int .i64 0,.int .i64 0,.int .i64 0,.int .i64 0,.int .i64 0,.int .i64 0,.int .i64 0,.int .i64 0,.int .i64 0,.int .i64 0,.int .i64 0,.int .i64 0,.int .i64 0,.int .i64 0,.int .i64 0,.nilFunc,.nilFunc,.nilFunc,.nilFunc,.nilFunc,.slice none 0 0],264,2136⟩),
(117,⟨.pointer none,1,8⟩),
(118,⟨.nilFunc,1,8⟩),
(119,⟨.nilFunc,1,8⟩),
(120,⟨.nilFunc,1,8⟩),
(121,⟨.pointer none,1,8⟩),
(122,⟨.nilFunc,1,8⟩),
(123,⟨.nilFunc,1,8⟩),
(125,⟨.pointer none,1,8⟩),
(126,⟨.nilFunc,1,8⟩),
(127,⟨.nilFunc,1,8⟩),
(129,⟨.pointer none,1,8⟩),
(130,⟨.nilFunc,1,8⟩),
(131,⟨.nilFunc,1,8⟩),
(132,⟨.nilFunc,1,8⟩),
(133,⟨.pointer none,1,8⟩),
(134,⟨.nilFunc,1,8⟩),
(136,⟨.nilFunc,1,8⟩),
(137,⟨.pointer none,1,8⟩),
(138,⟨.nilFunc,1,8⟩),
(139,⟨.nilFunc,1,8⟩),
(141,⟨.pointer none,1,8⟩),
(142,⟨.nilFunc,1,8⟩),
(145,⟨.pointer none,1,8⟩),
(146,⟨.nilFunc,1,8⟩),
(153,⟨.pointer none,1,8⟩),
(154,⟨.nilFunc,1,8⟩),
(157,⟨.string ⟨#[]⟩,1,16⟩),
(161,⟨.slice none 0 0,1,24⟩),
(169,⟨.agg #[.int .i64 0,.int .i64 0,.int .i64 0,.int .i64 0,.int .i64 0,.int .i64 0,.int .i64 0,.int .i64 0,.int .i64 0,.int .i64 0,.int .i64 0],11,88⟩),
(170,⟨.nilFunc,1,8⟩),
(173,⟨.agg #[.int .u8 0,.int .u8 0,.int .u8 0,.int .u8 0],4,4⟩),
(177,⟨.slice none 0 0,1,24⟩),
(179,⟨.agg #[.pointer none,.slice none 0 0],2,32⟩),
(192,⟨.nilFunc,1,8⟩),
(195,⟨.nilFunc,1,8⟩),
(198,⟨.nilFunc,1,8⟩),
(220,⟨.slice none 0 0,1,24⟩),
(229,⟨.pointer none,1,8⟩),
(231,⟨.pointer none,1,8⟩),
(233,⟨.pointer none,1,8⟩)]
theorem tabI_ok:AllI Tryz.prog tabI:=aRJ (by kernel_rfl)
def tabE:List (Nat×List Nat):=[(47,[1,1,2,1]),(52,[2,2,1,1]),(55,[1,1,2,2,0,1,1]),(58,[2,1,1]),(63,[1,1]),(79,[0,2,2]),(81,[2,2,1,1,1,0,2,2]),(83,[2,2,1,1,1,1]),(85,[2,2,1,1]),(89,[2,2,1,1])]
theorem tabE_ok:AllE Tryz.prog tabE:=aSA (by kernel_rfl)
def tab:Tab Tryz.prog where
 und:=tabU
 okU:=tabU_ok
 inf:=tabI
 okI:=tabI_ok
 eqs:=tabE
 okE:=tabE_ok
 mixed:=by kernel_rfl
theorem eN {X:Type} {k:Nat} {E0:Env} {F:Nat→Prop} {h0:Array Obj} {J:X→Prop} {out:X→gK} {H H':SH} {w v:SV} {n:Nat} (x:X) (hJ:J x) (hH:nQ (rn []) H (out x).heap:=by repeat (first|exact trivial|refine ⟨by rfl,?_⟩)) (hn:dY (rn []) (out x).heap []=true:=by rfl) (ho:out x=.ret v n H':=by rfl) (hv:w=v.ren (rn []):=by rfl):∀E h,Ag k E0 E→Sat E F H h→Kp F h0 h→aL k E0 F h0 J out (.returned (w.g E)) h:=aL.mk x hJ [] hH rfl hn (aY ho hv)
theorem eX {X:Type} {k:Nat} {E0:Env} {F G F' G':Nat→Prop} {h0 hb:Array Obj} {J:X→(Nat→Prop)→Array Obj→Prop} {out:X→gK} {H H':SH} {w v:SV} {n:Nat} (N:Now F G h0 F' G' hb) (x:X) (hJ:∀h',Up G' hb G' h'→J x G' h') (hH:nQ (rn []) H (out x).heap:=by repeat (first|exact trivial|refine ⟨by rfl,?_⟩)) (hn:dY (rn []) (out x).heap []=true:=by rfl) (ho:out x=.ret v n H':=by rfl) (hv:w=v.ren (rn []):=by rfl):∀E h,Ag k E0 E→Sat E F' H h→Kp F' hb h→iK k E0 F G h0 J out (.returned (w.g E)) h:=iK.mk N x hJ [] hH rfl hn (aY ho hv)
theorem gS {s:SCx Tryz.prog} {ds:List dS} {nx:Nat} {st:List SI} {l:SFr} {H:SH} (h:goS tab s.c.n s.n0 s.F s.h0 ds (fun nx st l H=>aA s ds nx st l H) 1000 nx st l H):aA s ds nx st l H:=jA tab 1000 nx st l H h
theorem gR {s:SCx Tryz.prog} {ds:List dS} {all:List Oper} {st:List SI} {t:Tr} {taken:List Nat} {ps:List (Nat×cW)} {nx:Nat} {l:SFr} {H:SH} (g:goR tab s.c.n s.n0 s.F s.h0 ds all st all.toArray (fun k keep t taken ps nx l H=>aV s ds all st k keep t taken ps nx l H) (fun nx l H=>aA s ds nx st l H) t taken ps nx l H):bK s ds all st t taken ps nx l H:=goR_run tab t taken ps nx l H g
end Go.Proofs.YtgbeechjghajcaaGreatDoor

namespace Go.Proofs.YtgbeechjghajcaaGreatDoor
open Go Go.Fw
set_option maxRecDepth 100000
set_option maxHeartbeats 99999999
def cls (c:Nat):Int:=
 if (97≤c∧c≤122)∨(65≤c∧c≤90) then 2 else if 48≤c∧c≤57 then 3
 else if c=32∨c=9∨c=10∨c=13 then 1
 else if c ∈ [123,125,40,41,44,59,61,35,47,60,33,45,46,58,43] then 4 else 0
def clsS:List SV:=(List.range 256).map fun c=>.v (.int .i64 (cls c))
def scanS:List SV:=[.v (.func (.func 50) #[] #[]),.v (.func (.func 51) #[] #[]),.v (.func (.func 52) #[] #[]),.v (.func (.func 53) #[] #[]),.v (.func (.func 54) #[] #[])]
def scn (src:ByteArray) (pos:Int) (toks:SV):List SV:=.v (.string src)::.v (.int .i64 pos)::(clsS++(scanS++[toks]))
theorem aLT {c:Nat} (hc:c<256) (r:List SV):nth (clsS++r) c=some (.v (.int .i64 (cls c))):=by
 rw [iF,List.getElem?_append_left (by simpa [clsS] using hc)]
 simp [clsS,hc]
theorem aKQ {src:ByteArray} {pos:Int} {toks:SV} {c:Nat} (hc:c<256):nth (scn src pos toks) (0+(1+1)+((c:Int)).toNat*1)=some (.v (.int .i64 (cls c))):=by
 rw [show 0+(1+1)+((c:Int)).toNat*1=c+1+1 by simp;omega]
 exact aLT hc _
abbrev scB (src:ByteArray) (pos:Int) (b:Nat:=1):Nat×Blk:=(0,.cells 112 (scn src pos (.buf b)))
def zM (pos:Int):List PanicEntry:=[{v:=.iface 104 (.int .i64 pos),recovered:=false}]
theorem aAW (src:ByteArray) (pos:Int):FnS Tryz.prog 50 2 [.ptr 0 0] [scB src pos] (fun _:Unit=>True) (fun _=>.pan (zM pos) 2 [scB src pos]):=by
 refine FnS.of Tryz.func50 (by kernel_rfl) rfl Tryz.ntmps50 rfl fun E0 F h w0 cs=>?_
 conv=>whnf
 refine gS ?_;conv=>whnf
 try refine aA.panicU ?_
 exact aE.pan Tryz.func50 (aL.mk (()) (trivial) [] sH rfl rfl (aT rfl))
theorem pass_fn (src:ByteArray) (pos:Int) (hp:0≤pos∧pos<9223372036854775807):FnS Tryz.prog 51 2 [.ptr 0 0] [scB src pos] (fun _:Unit=>True) (fun _=>.ret (.tup []) 2 [scB src (pos+1)]):=by
 refine FnS.of Tryz.func51 (by kernel_rfl) rfl Tryz.ntmps51 rfl fun E0 F h w0 cs=>?_
 conv=>whnf
 refine gS ?_;conv=>whnf
 repeat ((first|refine oM ?_|refine oL ?_|refine oR ?_);(try intro _);conv=>whnf)
 try refine aA.finU ?_
 exact aE.ret tab Tryz.func51 rfl (eN () trivial)
def dR (s:ByteArray) (p:Nat→Bool) (i:Nat):Nat:=if h:i<s.size then (if p (aN s i) then dR s p (i+1) else i) else i
termination_by s.size - i
theorem oW (s:ByteArray) (i:Nat):aN s i<256:=UInt8.toNat_lt _
def fX (a b f:Int) (c:Nat):Bool:=decide (cls c=a)||decide (cls c=b)||decide ((c:Int)=f)
theorem aYC (src:ByteArray) (hs:src.size≤65536) (pos:Nat) (hp:pos≤src.size) (a b f:Int):FnS Tryz.prog 111 2 [.ptr 0 0,.v (.int .i64 a),.v (.int .i64 b),.v (.int .u8 f)] [scB src pos] (fun _:Unit=>True)
  (fun _=>.ret (.v (.int .i64 (dR src (fX a b f) pos))) 2 [scB src pos]):=by
 obtain ⟨r,hr⟩:∃r,r=dR src (fX a b f) pos:=⟨_,rfl⟩
 rw [←hr]
 refine FnS.of Tryz.func111 (by kernel_rfl) rfl Tryz.ntmps111 rfl fun E0 F h w0 cs=>?_
 conv=>whnf
 refine gS ?_;conv=>whnf
 refine aA.subR [] (aA.loop (fun (i:Nat)=>[(9,.v (.int .i64 i)),(3,.v (.int .u8 f)),(2,.v (.int .i64 b)),(1,.v (.int .i64 a)),(0,.ptr 0 0)]) (fun (i:Nat)=>[scB src pos]) 2 (fun (i:Nat)=>i≤src.size∧r=dR src (fX a b f) i) (fun (i:Nat)=>src.size - i) ?round1 (pos) ?J01) sH sH
 case J01=>exact (⟨by omega,hr⟩)
 rintro i hJ back
 conv=>whnf
 refine gS ?_;conv=>whnf
 refine ⟨fun hk=>?_,fun hk=>?_⟩<;>conv=>whnf
 ·obtain ⟨c,hc⟩:∃c,c=aN src ((i:Int)).toNat:=⟨_,rfl⟩
  have hb:c<256:=by rw [hc];exact oW src i
  rw [←hc]
  conv=>whnf
  repeat ((first|refine oM ?_|refine oL ?_|refine oR ?_);(try intro _);conv=>whnf)
  have hc':c=aN src i:=hc
  have go:fX a b f c=true→r=dR src (fX a b f) (i+1):=fun hp=>by
   have hu:=hJ.2
   unfold dR at hu
   rw [dif_pos (by omega),←hc',if_pos hp] at hu
   exact hu
  have no:fX a b f c=false→r=i:=fun hp=>by
   have hu:=hJ.2
   unfold dR at hu
   rw [dif_pos (by omega),←hc',if_neg (by rw [hp];simp)] at hu
   exact hu
  rw [wJ (aKQ hb) (by rfl) (by rfl) (by rfl)]
  conv=>whnf
  refine ⟨fun h1=>?_,fun h1=>?_⟩<;>conv=>whnf
  ·conv=>whnf
   repeat ((first|refine oM ?_|refine oL ?_|refine oR ?_);(try intro _);conv=>whnf)
   refine aA.subR [] (back (i+1) (by exact (⟨by omega,go (by simp [fX,h1])⟩)) (by (try dsimp only);omega)) sH sH
  conv=>whnf
  repeat ((first|refine oM ?_|refine oL ?_|refine oR ?_);(try intro _);conv=>whnf)
  rw [wJ (aKQ hb) (by rfl) (by rfl) (by rfl)]
  conv=>whnf
  refine ⟨fun h2=>?_,fun h2=>?_⟩<;>conv=>whnf
  ·conv=>whnf
   repeat ((first|refine oM ?_|refine oL ?_|refine oR ?_);(try intro _);conv=>whnf)
   refine aA.subR [] (back (i+1) (by exact (⟨by omega,go (by simp [fX,h2])⟩)) (by (try dsimp only);omega)) sH sH
  conv=>whnf
  refine ⟨fun h3=>?_,fun h3=>?_⟩<;>conv=>whnf
  ·conv=>whnf
   repeat ((first|refine oM ?_|refine oL ?_|refine oR ?_);(try intro _);conv=>whnf)
   refine aA.subR [] (back (i+1) (by exact (⟨by omega,go (by simp [fX,h3])⟩)) (by (try dsimp only);omega)) sH sH
  conv=>whnf
  rw [no (by simp [fX,h1,h2,h3])]
  try refine aA.retU ?_
  exact aE.ret tab Tryz.func111 rfl (eN () trivial)
 conv=>whnf
 have hu:=hJ.2
 rw [show i=src.size by omega] at hu ⊢
 unfold dR at hu
 rw [dif_neg (by omega)] at hu
 rw [←hu]
 try refine aA.retU ?_
 exact aE.ret tab Tryz.func111 rfl (eN () trivial)
structure Tok where
 kind:Int
 pos:Int
 text:ByteArray
 n:Int
def Tok.row (t:Tok):List Value:=[.int .i64 t.kind,.int .i64 t.pos,.string t.text,.int .i64 t.n]
theorem aQK (src:ByteArray) (pos:Int) (l:List Tok) (hl:l.length≤65536) (t:Tok) (e:Int):FnS Tryz.prog 112 2 [.ptr 0 0,.agg [.v (.int .i64 t.kind),.v (.int .i64 t.pos),.v (.string t.text),.v (.int .i64 t.n)],.v (.int .i64 e)] [scB src pos,(1,.own 47 4 (l.map Tok.row))] (fun _:Unit=>True)
  (fun _=>.ret (.tup []) 3 [scB src e 2,(2,.own 47 4 ((l++[{t with pos:=pos}]).map Tok.row))]):=by
 refine FnS.of Tryz.func112 (by kernel_rfl) rfl Tryz.ntmps112 rfl fun E0 F h w0 cs=>?_
 conv=>whnf
 refine gS ?_;conv=>whnf
 have hlen:(l.map Tok.row).length=l.length:=by simp
 refine aA.held tab (.fl 0 (.fl 1 (.fl 2 (.fl 3 (.fl 4 (.fl 5 (.e1 6 [4] (.e1 7 [] (.fl 8 (.fl 9 (.e1 10 [] .done))))))))))) (by kernel_rfl) ?_;conv=>whnf
 (try refine gR ?_);conv=>whnf
 repeat ((first|refine oM ?_|refine oL ?_|refine oR ?_|refine oB ?_);(try intro _);conv=>whnf)
 conv=>whnf
 refine And.intro ⟨Nat.one_pos,(show (l.map Tok.row).length+1≤9223372036854775807 by omega),(show ((l.map Tok.row).length+1)*40≤140737488355328 by omega),by decide⟩ ?_
 conv=>whnf
 repeat ((first|refine oM ?_|refine oL ?_|refine oR ?_|refine oB ?_);(try intro _);conv=>whnf)
 (try refine gS ?_);conv=>whnf
 have key:l.map Tok.row++tC 4 1 [Value.int .i64 t.kind,.int .i64 pos,.string t.text,.int .i64 t.n]=(l++[{t with pos:=pos}]).map Tok.row:=by
  rw [List.map_append];rfl
 refine aA.subR (nx':=5) (l':=[]) (H':=[(4,.own 47 4 ((l++[{t with pos:=pos}]).map Tok.row)),scB src e 4]) [] ?_ trivial ⟨congrArg (fun r=>some (Blk.own _ 4 r)) key,by rfl,trivial⟩
 try refine aA.finU ?_
 exact aE.ret tab Tryz.func112 rfl (aL.mk (()) (trivial) [(2,4)] sH rfl rfl (aY rfl rfl))
theorem aLA (s:ByteArray) (p:Nat→Bool) (i:Nat):i≤dR s p i:=by
 induction h:s.size - i generalizing i with
 |zero=>
  unfold dR
  rw [dif_neg (by omega)]
  omega
 |succ n ih=>
  unfold dR
  split
  ·split
   ·exact Nat.le_trans (Nat.le_succ i) (ih (i+1) (by omega))
   omega
  omega
theorem tP (s:ByteArray) (p:Nat→Bool) (i:Nat) (hi:i≤s.size):dR s p i≤s.size:=by
 induction h:s.size - i generalizing i with
 |zero=>
  unfold dR
  rw [dif_neg (by omega)]
  omega
 |succ n ih=>
  unfold dR
  split
  ·split
   ·exact ih (i+1) (by omega) (by omega)
   omega
  omega
def aZ (l:List Tok) (b:Nat):Nat×Blk:=(b,.own 47 4 (l.map Tok.row))
def endO (src:ByteArray) (pos e:Nat) (l:List Tok) (t:Tok) (bad:Prop) [Decidable bad]:gK:=
 if bad then .pan (zM pos) 2 [scB src pos,aZ l 1] else .ret (.tup []) 3 [scB src e 2,aZ (l++[{t with pos:=pos}]) 2]
def nV (src:ByteArray) (pos:Nat):Nat:=dR src (fX 2 3 95) pos
theorem aSK (src:ByteArray) (hs:src.size≤65536) (pos:Nat) (hp:pos≤src.size) (l:List Tok) (hl:l.length≤65536):FnS Tryz.prog 52 2 [.ptr 0 0] [scB src pos,aZ l 1] (fun _:Unit=>True)
  (fun _=>endO src pos (nV src pos) l ⟨1,0,src.extract pos (nV src pos),0⟩ (32<nV src pos - pos)):=by
 obtain ⟨e,he⟩:∃e,e=nV src pos:=⟨_,rfl⟩
 have h1:pos≤e:=he▸aLA _ _ _
 have h2:e≤src.size:=he▸tP _ _ _ hp
 rw [←he]
 obtain ⟨o,ho⟩:∃o,o=endO src pos e l ⟨1,0,src.extract pos e,0⟩ (32<e - pos):=⟨_,rfl⟩
 rw [←ho]
 unfold endO at ho
 refine FnS.of Tryz.func52 (by kernel_rfl) rfl Tryz.ntmps52 rfl fun E0 F h w0 cs=>?_
 conv=>whnf
 refine gS ?_;conv=>whnf
 refine aA.callN (aYC src hs pos hp 2 3 95) [0,1] ?_ sH ?CNa5
 case CNa5=>rfl
 intro _ _
 conv=>whnf
 (try refine gS ?_);conv=>whnf
 rw [show dR src (fX 2 3 95) pos=e from he.symm]
 conv=>whnf
 repeat ((first|refine oM ?_|refine oL ?_|refine oR ?_);(try intro _);conv=>whnf)
 refine ⟨fun hb=>?_,fun hb=>?_⟩<;>conv=>whnf
 ·rw [if_pos (by omega)] at ho
  subst ho
  conv=>whnf
  refine aA.callN (aAW src pos) [0,1] ?_ sH ?CNa6
  case CNa6=>rfl
  intro _ _
  conv=>whnf
  exact aE.pan Tryz.func52 (aL.mk (()) (trivial) [] sH rfl rfl (aT rfl))
 rw [if_neg (by omega)] at ho
 subst ho
 conv=>whnf
 refine aA.held tab (.fl 0 (.fl 1 (.fl 2 (.fl 3 (.fl 4 (.fl 5 (.fl 6 (.fl 7 (.fl 8 (.fl 9 (.fl 10 (.fl 11 (.fl 12 (.e1 13 [] .done)))))))))))))) (by kernel_rfl) ?_;conv=>whnf
 (try refine gR ?_);conv=>whnf
 repeat ((first|refine oM ?_|refine oL ?_|refine oR ?_|refine oB ?_);(try intro _);conv=>whnf)
 conv=>whnf
 refine aV.callN (aQK src pos l hl ⟨1,0,src.extract pos e,0⟩ e) [0,1] ?_ sH ?CNa7
 case CNa7=>rfl
 intro _ _
 conv=>whnf
 try refine oB ?_
 (try refine gR ?_);conv=>whnf
 (try refine gS ?_);conv=>whnf
 try refine aA.finU ?_
 exact aE.ret tab Tryz.func52 rfl (aL.mk (()) (trivial) [(2,2)] sH rfl rfl (aY rfl rfl))

def tH (s:ByteArray) (e i acc:Nat):Option Nat:=
 if i<e then (if 10*acc+(aN s i - 48)≤1099511627776 then tH s e (i+1) (10*acc+(aN s i - 48)) else none) else some acc
termination_by e - i
def tS (src:ByteArray) (pos:Nat):Nat:=dR src (fX 3 3 48) pos
def numO (src:ByteArray) (pos e:Nat) (l:List Tok):gK:=
 if 1<e - pos∧aN src pos=48 then .pan (zM pos) 2 [scB src pos,aZ l 1] else
 match tH src e pos 0 with
 |none=>.pan (zM pos) 2 [scB src pos,aZ l 1]
 |some n=>.ret (.tup []) 3 [scB src e 2,aZ (l++[⟨2,pos,⟨#[]⟩,n⟩]) 2]
theorem aKF (s:ByteArray) (p:Nat→Bool) (i:Nat):∀j,i≤j→j<dR s p i→p (aN s j)=true:=by
 induction h:s.size - i generalizing i with
 |zero=>
  intro j h1 h2
  unfold dR at h2
  rw [dif_neg (by omega)] at h2
  omega
 |succ n ih=>
  intro j h1 h2
  unfold dR at h2
  rw [dif_pos (by omega)] at h2
  split at h2
  ·rename_i hp
   by_cases hj:j=i
   ·rw [hj];exact hp
   exact ih (i+1) (by omega) j (by omega) h2
  omega
theorem aPK {c:Nat} (h:fX 3 3 48 c=true):48≤c∧c≤57:=by
 simp only [fX,Bool.or_eq_true,decide_eq_true_eq] at h
 have:cls c=3∨c=48:=by omega
 rcases this with h|h
 ·unfold cls at h
  split at h
  ·omega
  split at h
  ·omega
  split at h
  ·omega
  split at h<;>omega
 omega
theorem aHQ (src:ByteArray) (hs:src.size≤65536) (pos:Nat) (hp:pos≤src.size) (hd:pos<tS src pos) (l:List Tok) (hl:l.length≤65536):FnS Tryz.prog 53 2 [.ptr 0 0] [scB src pos,aZ l 1] (fun _:Unit=>True)
  (fun _=>numO src pos (tS src pos) l):=by
 have hdig:=aKF src (fX 3 3 48) pos
 obtain ⟨e,he⟩:∃e,e=tS src pos:=⟨_,rfl⟩
 have h1:pos≤e:=he▸aLA _ _ _
 have h2:e≤src.size:=he▸tP _ _ _ hp
 rw [show dR src (fX 3 3 48) pos=e from he.symm] at hdig
 rw [←he] at hd ⊢
 obtain ⟨o,ho⟩:∃o,o=numO src pos e l:=⟨_,rfl⟩
 rw [←ho]
 unfold numO at ho
 refine FnS.of Tryz.func53 (by kernel_rfl) rfl Tryz.ntmps53 rfl fun E0 F h w0 cs=>?_
 conv=>whnf
 refine gS ?_;conv=>whnf
 refine aA.callN (aYC src hs pos hp 3 3 48) [0,1] ?_ sH ?CNa1
 case CNa1=>rfl
 intro _ _
 conv=>whnf
 (try refine gS ?_);conv=>whnf
 rw [show dR src (fX 3 3 48) pos=e from he.symm]
 conv=>whnf
 have jT:1<e - pos→((decide (((aN src ((pos:Int)).toNat:Nat):Int)=48))=true↔(1<e - pos∧aN src pos=48)):=fun hq=>by
  rw [decide_eq_true_iff,show ((pos:Int)).toNat=pos from rfl];omega
 have jF:¬1<e - pos→(false=true↔(1<e - pos∧aN src pos=48)):=fun hq=>⟨fun h=>(by cases h),fun h=>absurd h.1 hq⟩
 have hdp:=aPK (hdig pos (Nat.le_refl _) hd)
 refine aA.join (fun (b:Bool)=>[(25,.v (.bool b)),(2,.v (.int .i64 e)),(0,.ptr 0 0)]) (fun (b:Bool)=>[scB src pos,aZ l 1]) 2 (fun (b:Bool)=>(b=true↔(1<e - pos∧aN src pos=48))) ?_ (fun meet=>?_)
 rotate_left
 ·refine aA.held tab (.fl 0 (.fl 1 (.fl 2 (.fl 3 (.fl 4 (.fl 5 (.fl 6 (.fl 7 (.fl 8 (.fl 9 (.fl 10 (.fl 11 (.fl 12 (.fl 13 (.fl 14 (.fl 15 (.fl 16 (.fl 17 (.fl 18 .done))))))))))))))))))) (by kernel_rfl) ?_
  conv=>whnf
  (try refine gR ?_);conv=>whnf
  repeat ((first|refine oM ?_|refine oL ?_|refine oR ?_|refine oB ?_);(try intro _);conv=>whnf)
  conv=>whnf
  refine ⟨fun ha=>?_,fun ha=>?_⟩<;>conv=>whnf
  ·try refine gR ?_
   conv=>whnf
   repeat ((first|refine oM ?_|refine oL ?_|refine oR ?_|refine oB ?_);(try intro _);conv=>whnf)
   (try refine gS ?_);conv=>whnf
   refine aA.subR [] (meet (decide (((aN src ((pos:Int)).toNat:Nat):Int)=48)) (by exact (jT (by omega)))) sH sH
  (try refine gR ?_);conv=>whnf
  (try refine gS ?_);conv=>whnf
  refine aA.subR [] (meet (false) (by exact (jF (by omega)))) sH sH
 intro b hb
 cases b
 ·have hb:¬(1<e - pos∧aN src pos=48):=fun hq=>by have:=hb.2 hq;cases this
  rw [if_neg hb] at ho
  (try refine gS ?_);conv=>whnf
  refine aA.subR [] (aA.loop (fun (⟨i,a⟩:Nat×Nat)=>[(4,.v (.int .i64 i)),(3,.v (.int .i64 a)),(2,.v (.int .i64 e)),(0,.ptr 0 0)]) (fun (⟨i,a⟩:Nat×Nat)=>[scB src pos,aZ l 1]) 2 (fun (⟨i,a⟩:Nat×Nat)=>(pos≤i∧i≤e∧a≤1099511627776)∧tH src e pos 0=tH src e i a) (fun (⟨i,a⟩:Nat×Nat)=>e - i) ?round4 ((pos,0)) ?J04) sH sH
  case J04=>exact (⟨by omega,rfl⟩)
  rintro ⟨i,a⟩ hJ back
  try dsimp only at hJ back
  conv=>whnf
  try dsimp only
  refine gS ?_;conv=>whnf
  refine ⟨fun hk=>?_,fun hk=>?_⟩<;>conv=>whnf
  ·have hdi:=aPK (hdig i (by omega) (by omega))
   obtain ⟨c,hc⟩:∃c,c=aN src ((i:Int)).toNat:=⟨_,rfl⟩
   have hc':aN src i=c:=hc.symm
   rw [hc'] at hdi
   have hm:10*(a:Int)+((c:Int) - 48)%256=((10*a+(c - 48):Nat):Int):=by omega
   conv=>whnf
   repeat ((first|refine oM ?_|refine oL ?_|refine oR ?_);(try intro _);conv=>whnf)
   rw [←hc]
   conv=>whnf
   rw [hm]
   refine ⟨fun hx=>?_,fun hx=>?_⟩<;>conv=>whnf
   ·conv=>whnf
    have hn:tH src e pos 0=none:=by
     rw [hJ.2]
     unfold tH
     rw [if_pos (by omega),hc',if_neg (by omega)]
    rw [hn] at ho
    subst ho
    refine aA.callN (aAW src pos) [0,1] ?_ sH ?CNa5
    case CNa5=>rfl
    intro _ _
    conv=>whnf
    exact aE.pan Tryz.func53 (aL.mk (()) (trivial) [] sH rfl rfl (aT rfl))
   conv=>whnf
   repeat ((first|refine oM ?_|refine oL ?_|refine oR ?_);(try intro _);conv=>whnf)
   have hn:tH src e pos 0=tH src e (i+1) (10*a+(c - 48)):=by
    rw [hJ.2]
    conv=>lhs;unfold tH
    rw [if_pos (by omega),hc',if_pos (by omega)]
   refine aA.subR [] (back ((i+1,10*a+(c - 48))) (by exact (⟨by omega,hn⟩)) (by (try dsimp only);omega)) sH sH
  have hn:tH src e pos 0=some a:=by
   rw [hJ.2]
   unfold tH
   rw [if_neg (by omega)]
  rw [hn] at ho
  subst ho
  conv=>whnf
  refine aA.callN (aQK src pos l hl ⟨2,0,⟨#[]⟩,a⟩ e) [0,1] ?_ sH ?CNa7
  case CNa7=>rfl
  intro _ _
  conv=>whnf
  (try refine gS ?_);conv=>whnf
  try refine aA.finU ?_
  exact aE.ret tab Tryz.func53 rfl (aL.mk (()) (trivial) [(2,2)] sH rfl rfl (aY rfl rfl))
 rw [if_pos (hb.1 rfl)] at ho
 subst ho
 (try refine gS ?_);conv=>whnf
 refine aA.callN (aAW src pos) [0,1] ?_ sH ?CNa8
 case CNa8=>rfl
 intro _ _
 conv=>whnf
 exact aE.pan Tryz.func53 (aL.mk (()) (trivial) [] sH rfl rfl (aT rfl))
theorem aFX {h:Array Obj} (s p:ByteArray):FnV Tryz.prog 151 #[.string s,.string p] h fun r h'=>r=.bool (decide (p.size≤s.size∧s.extract 0 p.size=p))∧bW h.size h h':=by
 refine Fn.ofS (args:=[.string s,.string p]) Tryz.func151 (by kernel_rfl) rfl Tryz.ntmps151 rfl fun w0 cs=>?_
 conv=>whnf
 refine gS ?_;conv=>whnf
 refine ⟨fun hl=>?_,fun hl=>?_⟩<;>conv=>whnf
 ·conv=>whnf
  repeat ((first|refine oM ?_|refine oL ?_|refine oR ?_);(try intro _);conv=>whnf)
  refine aA.retU (aE.ret tab Tryz.func151 rfl fun Ez Hz Az Sz K=>⟨_,rfl,?_,K.keeps⟩)
  refine congrArg Value.bool (decide_eq_decide.2 ?_)
  exact ⟨fun e=>⟨by omega,e⟩,fun e=>e.2⟩
 conv=>whnf
 refine aA.retU (aE.ret tab Tryz.func151 rfl fun Ez Hz Az Sz K=>⟨_,rfl,?_,K.keeps⟩)
 exact congrArg Value.bool (decide_eq_false (fun e=>hl (by omega))).symm
theorem zZ {h:Array Obj} (s p:ByteArray):FnV Tryz.prog 113 #[.string s,.string p] h fun r h'=>r=.bool (decide (p.size≤s.size∧s.extract 0 p.size=p))∧bW h.size h h':=by
 refine Fn.ofS (args:=[.string s,.string p]) Tryz.func113 (by kernel_rfl) rfl Tryz.ntmps113 rfl fun w0 cs=>?_
 conv=>whnf
 refine gS ?_;conv=>whnf
 refine aA.callV (fun Ez Hz Az Sz K=>aFX s p) ?_
 conv=>whnf
 (try refine gS ?_);conv=>whnf
 refine aA.retU (aE.ret tab Tryz.func113 rfl fun _ _ _ _ K=>⟨_,rfl,rfl,K.keeps⟩)
def kJ (c:Nat):Bool:=!(c==10)
abbrev aDE (src:ByteArray) (pos:Nat):Prop:=(⟨#[47,47]⟩:ByteArray).size≤(src.extract pos src.size).size∧(src.extract pos src.size).extract 0 (⟨#[47,47]⟩:ByteArray).size=⟨#[47,47]⟩
def aMC (src:ByteArray) (pos:Nat) (l:List Tok):gK:=
 if aDE src pos then .ret (.tup []) 2 [scB src (dR src kJ pos),aZ l 1]
 else .ret (.tup []) 3 [scB src (pos+1) 2,aZ (l++[⟨3,pos,src.extract pos (pos+1),0⟩]) 2]
theorem sign_fn (src:ByteArray) (hs:src.size≤65536) (pos:Nat) (hp:pos<src.size) (l:List Tok) (hl:l.length≤65536):FnS Tryz.prog 54 2 [.ptr 0 0] [scB src pos,aZ l 1] (fun _:Unit=>True)
  (fun _=>aMC src pos l):=by
 obtain ⟨o,ho⟩:∃o,o=aMC src pos l:=⟨_,rfl⟩
 rw [←ho]
 unfold aMC at ho
 refine FnS.of Tryz.func54 (by kernel_rfl) rfl Tryz.ntmps54 rfl fun E0 F h w0 cs=>?_
 conv=>whnf
 refine gS ?_;conv=>whnf
 refine aA.held tab (.fl 0 (.fl 1 (.fl 2 (.fl 3 (.fl 4 (.fl 5 (.fl 6 (.fl 7 (.fl 8 (.e1 9 [] (.fl 10 .done))))))))))) (by kernel_rfl) ?_;conv=>whnf
 (try refine gR ?_);conv=>whnf
 repeat ((first|refine oM ?_|refine oL ?_|refine oR ?_|refine oB ?_);(try intro _);conv=>whnf)
 conv=>whnf
 by_cases hq:aDE src pos
 rotate_left
 ·rw [if_neg hq] at ho
  subst ho
  refine aV.callV (fun Ez Hz Az Sz K=>zZ (src.extract pos src.size) ⟨#[47,47]⟩) (by (conv=>whnf);(repeat (guard_target=_∧_;refine And.intro (by (conv=>whnf);first|rfl|exact trivial) ?_;conv=>whnf));exact trivial) ?_
  conv=>whnf
  rw [decide_eq_false hq]
  try dsimp only
  (try refine gR ?_);conv=>whnf
  (try refine gS ?_);conv=>whnf
  refine aA.held tab (.fl 0 (.fl 1 (.fl 2 (.fl 3 (.fl 4 (.fl 5 (.fl 6 (.fl 7 (.fl 8 (.fl 9 (.fl 10 (.fl 11 (.fl 12 (.fl 13 (.fl 14 (.fl 15 (.fl 16 (.fl 17 (.fl 18 (.fl 19 (.fl 20 (.e1 21 [] .done)))))))))))))))))))))) (by kernel_rfl) ?_;conv=>whnf
  (try refine gR ?_);conv=>whnf
  repeat ((first|refine oM ?_|refine oL ?_|refine oR ?_|refine oB ?_);(try intro _);conv=>whnf)
  conv=>whnf
  refine aV.callN (aQK src pos l hl ⟨3,0,src.extract pos (pos+1),0⟩ (pos+1)) [0,1] ?_ sH ?CNa9
  case CNa9=>rfl
  intro _ _
  conv=>whnf
  try refine oB ?_
  (try refine gR ?_);conv=>whnf
  (try refine gS ?_);conv=>whnf
  try refine aA.retU ?_
  exact aE.ret tab Tryz.func54 rfl (aL.mk (()) (trivial) [(2,2)] sH rfl rfl (aY rfl rfl))
 rw [if_pos hq] at ho
 refine aV.callV (fun Ez Hz Az Sz K=>zZ (src.extract pos src.size) ⟨#[47,47]⟩) (by (conv=>whnf);(repeat (guard_target=_∧_;refine And.intro (by (conv=>whnf);first|rfl|exact trivial) ?_;conv=>whnf));exact trivial) ?_
 conv=>whnf
 rw [decide_eq_true hq]
 try dsimp only
 (try refine gR ?_);conv=>whnf
 (try refine gS ?_);conv=>whnf
 refine aA.subR [] (aA.loop (fun (i:Nat)=>[(0,.ptr 0 0)]) (fun (i:Nat)=>[scB src i,aZ l 1]) 2 (fun (i:Nat)=>(pos≤i∧i≤src.size)∧dR src kJ pos=dR src kJ i) (fun (i:Nat)=>src.size - i) ?round10 (pos) ?J010) sH sH
 case J010=>exact (⟨by omega,rfl⟩)
 rintro i hJ back
 conv=>whnf
 refine gS ?_;conv=>whnf
 refine aA.held tab (.fl 0 (.fl 1 (.fl 2 (.fl 3 (.fl 4 (.fl 5 (.fl 6 (.fl 7 (.fl 8 (.fl 9 (.fl 10 (.fl 11 (.fl 12 (.fl 13 (.fl 14 (.fl 15 (.fl 16 (.fl 17 (.fl 18 (.fl 19 (.fl 20 (.fl 21 .done)))))))))))))))))))))) (by kernel_rfl) ?_;conv=>whnf
 (try refine gR ?_);conv=>whnf
 refine ⟨fun hk=>?_,fun hk=>?_⟩<;>conv=>whnf
 ·try refine gR ?_
  conv=>whnf
  repeat ((first|refine oM ?_|refine oL ?_|refine oR ?_|refine oB ?_);(try intro _);conv=>whnf)
  conv=>whnf
  refine ⟨fun hx=>?_,fun hx=>?_⟩<;>conv=>whnf
  ·try refine gR ?_
   conv=>whnf
   (try refine gS ?_);conv=>whnf
   have hx':aN src i=10:=by exact_mod_cast hx
   have hn:dR src kJ pos=i:=by
    rw [hJ.2]
    unfold dR
    rw [dif_pos (by omega),hx'];rfl
   rw [hn] at ho
   subst ho
   conv=>whnf
   try refine aA.finU ?_
   exact aE.ret tab Tryz.func54 rfl (eN () trivial)
  (try refine gR ?_);conv=>whnf
  (try refine gS ?_);conv=>whnf
  repeat ((first|refine oM ?_|refine oL ?_|refine oR ?_);(try intro _);conv=>whnf)
  have hx':¬aN src i=10:=fun e=>hx (by exact_mod_cast e)
  have hn:dR src kJ pos=dR src kJ (i+1):=by
   rw [hJ.2]
   conv=>lhs;unfold dR
   rw [dif_pos (by omega),if_pos (by simp [kJ,hx'])]
  refine aA.subR [] (back (i+1) (by exact (⟨by omega,hn⟩)) (by (try dsimp only);omega)) sH sH
 (try refine gR ?_);conv=>whnf
 (try refine gS ?_);conv=>whnf
 have hn:dR src kJ pos=i:=by
  rw [hJ.2]
  unfold dR
  rw [dif_neg (by omega)]
 rw [hn] at ho
 subst ho
 conv=>whnf
 try refine aA.finU ?_
 exact aE.ret tab Tryz.func54 rfl (eN () trivial)

theorem aEJ {h:Array Obj}:FnV Tryz.prog 49 #[] h fun r h'=>r=.agg (SV.gs (fun _=>undef) clsS).toArray∧bW h.size h h':=by
 refine Fn.ofS (args:=[]) Tryz.func49 (by kernel_rfl) rfl Tryz.ntmps49 rfl fun w0 cs=>?_
 conv=>whnf
 refine gS ?_;conv=>whnf
 repeat ((first|refine aA.againU ?_|refine aA.loopU ?_|(refine aA.indexV tab ?_ ?hmx;(case hmx=>decide)));(conv=>whnf);refine gS ?_;(conv=>whnf);repeat ((first|refine And.intro (by decide) ?_|refine And.intro (fun _=>?_) (fun hn=>absurd (by decide) hn)|refine And.intro (fun hp=>absurd hp (by decide)) (fun _=>?_));(conv=>whnf)))
 refine aA.retU (aE.ret tab Tryz.func49 rfl fun Ez Hz Az Sz K=>⟨_,rfl,?_,K.keeps⟩)
 kernel_rfl

theorem aYU:aEZ Tryz.prog 48 3 [.ptr 0 0,.ptr 1 0,.ptr 2 0] [] .returning (fun _:Unit=>True) (fun _=>⟨.returning,3,[]⟩):=by
 refine aEZ.of Tryz.func48 (by kernel_rfl) rfl Tryz.ntmps48 rfl fun E0 F h w0 c0 cs=>?_
 (try refine gS ?_);conv=>whnf
 refine aA.recoverN ?_
 (try refine gS ?_);conv=>whnf
 refine aA.effV (fun E h=>aEA Tryz.underlying20) ?_
 (try refine gS ?_);conv=>whnf
 refine aA.finU (aE.retD tab Tryz.func48 rfl (aJU.mk () trivial [] trivial rfl rfl rfl))
theorem aFL (x y z:Value) (pos:Int):aEZ Tryz.prog 48 3 [.ptr 0 0,.ptr 1 0,.ptr 2 0] [(0,.cells 42 [.v x]),(1,.cells 3 [.v y]),(2,.cells 33 [.v z])] (.panicking (zM pos)) (fun _:Unit=>True)
  (fun _=>⟨.panicking [{v:=.iface 104 (.int .i64 pos),recovered:=true}],3,[(0,.cells 42 [.v (.slice none 0 0)]),(1,.cells 3 [.v (.int .i64 pos)]),(2,.cells 33 [.v (.int .i64 50)])]⟩):=by
 refine aEZ.of Tryz.func48 (by kernel_rfl) rfl Tryz.ntmps48 rfl fun E0 F h w0 c0 cs=>?_
 (try refine gS ?_);conv=>whnf
 refine aA.recoverP ?_
 (try refine gS ?_);conv=>whnf
 refine aA.effV (fun E h=>qS Tryz.underlying104 (fun _ e=>by cases e)) ?_
 (try refine gS ?_);conv=>whnf
 refine aA.finU (aE.retD tab Tryz.func48 rfl (aJU.mk () trivial [] ⟨by rfl,by rfl,by rfl,trivial⟩ rfl rfl rfl))
end Go.Proofs.YtgbeechjghajcaaGreatDoor

namespace Go.Proofs.YtgbeechjghajcaaGreatDoor
open Go Go.Fw
def dN (src:ByteArray) (pos:Nat) (l:List Tok):Option (Nat×List Tok):=
 let k:=cls (aN src pos)
 if k=0 then none
 else if k=1 then some (pos+1,l)
 else if k=2 then (if 32<nV src pos - pos then none else some (nV src pos,l++[⟨1,pos,src.extract pos (nV src pos),0⟩]))
 else if k=3 then (if 1<tS src pos - pos∧aN src pos=48 then none else
  match tH src (tS src pos) pos 0 with
  |none=>none
  |some n=>some (tS src pos,l++[⟨2,pos,⟨#[]⟩,n⟩]))
 else (if aDE src pos then some (dR src kJ pos,l) else some (pos+1,l++[⟨3,pos,src.extract pos (pos+1),0⟩]))
theorem xH {s:ByteArray} {p:Nat→Bool} {i:Nat} (hi:i<s.size) (hp:p (aN s i)=true):i<dR s p i:=by
 unfold dR
 rw [dif_pos hi,if_pos hp]
 have:=aLA s p (i+1)
 omega
theorem jJ {src:ByteArray} {pos:Nat} {l:List Tok} (hp:pos<src.size) {p':Nat} {l':List Tok} (h:dN src pos l=some (p',l')):pos<p'∧p'≤src.size∧l'.length≤l.length+1:=by
 have hin:∀ {a b f:Int},cls (aN src pos)=a→fX a b f (aN src pos)=true:=fun h=>by simp [fX,h]
 simp only [dN] at h
 split at h
 ·cases h
 split at h
 ·cases h
  exact ⟨by omega,by omega,by omega⟩
 split at h
 ·rename_i hk
  split at h
  ·cases h
  cases h
  exact ⟨xH hp (hin hk),tP _ _ _ (by omega),by simp⟩
 split at h
 ·rename_i hk
  split at h
  ·cases h
  split at h
  ·cases h
  cases h
  exact ⟨xH hp (hin hk),tP _ _ _ (by omega),by simp⟩
 split at h
 ·rename_i hc
  cases h
  refine ⟨xH hp ?_,tP _ _ _ (by omega),by omega⟩
  by_cases h10:aN src pos=10
  ·rename_i h1 _ _
   exact absurd (by rw [h10];decide) h1
  simp [kJ,h10]
 cases h
 exact ⟨by omega,by omega,by simp⟩
def vV (src:ByteArray) (pos:Nat) (l:List Tok):List Tok ⊕ Nat:=
 if hp:pos<src.size then
  match h:dN src pos l with
  |none=>.inr pos
  |some (p',l')=>vV src p' l'
 else .inl l
termination_by src.size - pos
decreasing_by
 have:=jJ hp h
 omega

abbrev Bs:=List UInt8
abbrev bs (s:ByteArray):Bs:=s.data.toList
theorem kY (s:ByteArray):(bs s).length=s.size:=rfl
theorem xC {s:ByteArray} {i:Nat} (hi:i<s.size):∃c,(bs s).drop i=c::(bs s).drop (i+1)∧c.toNat=aN s i:=by
 refine ⟨(bs s)[i]'hi,List.drop_eq_getElem_cons hi,?_⟩
 unfold aN
 rw [List.getD_eq_getElem?_getD,List.getElem?_eq_getElem hi];rfl
theorem jG (s:ByteArray) (i j:Nat):bs (s.extract i j)=((bs s).take j).drop i:=by
 simp [bs,List.drop_take]
def qW (p:Nat→Bool):Bs→Nat
 | []=>0
 |c::r=>if p c.toNat then qW p r+1 else 0
theorem tQ (p:Nat→Bool):∀b,qW p b≤b.length
 | []=>Nat.le_refl _
 |c::r=>by
  have:=tQ p r
  simp only [qW,List.length_cons]
  split<;>omega
theorem aGP {p:Nat→Bool}:∀ {b:Bs},∀c∈b.take (qW p b),p c.toNat=true
 | [],c,h=>by simp at h
 |x::r,c,h=>by
  simp only [qW] at h
  split at h
  ·rename_i hp
   simp only [List.take_succ_cons,List.mem_cons] at h
   rcases h with rfl|h
   ·exact hp
   exact aGP c h
  simp at h
theorem aEM {p:Nat→Bool} {c:UInt8} {r:Bs} (h:p c.toNat=true):0<qW p (c::r):=by simp [qW,h]
theorem aJS (s:ByteArray) (p:Nat→Bool) (i:Nat) (hi:i≤s.size):dR s p i=i+qW p ((bs s).drop i):=by
 induction h:s.size - i generalizing i with
 |zero=>
  unfold dR
  rw [dif_neg (by omega),List.drop_eq_nil_of_le (by rw [kY];omega)];rfl
 |succ n ih=>
  obtain ⟨c,h1,h2⟩:=xC (s:=s) (i:=i) (by omega)
  unfold dR
  rw [dif_pos (by omega),h1,←h2]
  simp only [qW]
  split
  ·rw [ih (i+1) (by omega) (by omega)];omega
  omega
def qM:Bs→Nat→Option Nat
 | [],a=>some a
 |c::r,a=>if 10*a+(c.toNat - 48)≤1099511627776 then qM r (10*a+(c.toNat - 48)) else none
theorem aRC (s:ByteArray) (e:Nat) (he:e≤s.size) (i a:Nat):tH s e i a=qM (((bs s).take e).drop i) a:=by
 induction h:e - i generalizing i a with
 |zero=>
  unfold tH
  rw [if_neg (by omega),List.drop_eq_nil_of_le (by simp;omega)];rfl
 |succ n ih=>
  unfold tH
  have hi:i<((bs s).take e).length:=by rw [List.length_take,kY];omega
  rw [if_pos (by omega),List.drop_eq_getElem_cons hi]
  simp only [qM]
  have hb:aN s i=(((bs s).take e)[i]'hi).toNat:=by
   rw [List.getElem_take]
   unfold aN
   rw [List.getD_eq_getElem?_getD,List.getElem?_eq_getElem (by rw [List.length_take,kY] at hi;rw [show s.data.toList.length=s.size from rfl];omega)];rfl
  rw [hb]
  split
  ·exact ih (i+1) _ (by omega)
  rfl
inductive Tk where
 |name (b:Bs)
 |num (n:Nat)
 |sign (c:UInt8)
def Tk.tok (p:Nat):Tk→Tok
 | .name b=>⟨1,p,⟨b.toArray⟩,0⟩
 | .num n=>⟨2,p,⟨#[]⟩,n⟩
 | .sign c=>⟨3,p,⟨#[c]⟩,0⟩
def nmC:Nat→Bool:=fX 2 3 95
def dgC:Nat→Bool:=fX 3 3 48
def yJ:Bs→Option (Option Tk×Nat)
 | []=>none
 |c::r=>
  if cls c.toNat=0 then none
  else if cls c.toNat=1 then some (none,1)
  else if cls c.toNat=2 then (if 32<qW nmC (c::r) then none else some (some (.name ((c::r).take (qW nmC (c::r)))),qW nmC (c::r)))
  else if cls c.toNat=3 then (if 1<qW dgC (c::r)∧c.toNat=48 then none else
   match qM ((c::r).take (qW dgC (c::r))) 0 with
   |none=>none
   |some n=>some (some (.num n),qW dgC (c::r)))
  else if c=47∧r.head? = some 47 then some (none,qW kJ (c::r))
  else some (some (.sign c),1)
theorem wA {b:Bs} {t:Option Tk} {k:Nat} (h:yJ b=some (t,k)):0<k∧k≤b.length:=by
 cases b with
 |nil=>cases h
 |cons c r=>
  have hin:∀ {a b f:Int},cls c.toNat=a→fX a b f c.toNat=true:=fun h=>by simp [fX,h]
  simp only [yJ] at h
  repeat' (split at h)
  all_goals first|(cases h;done)|skip
  all_goals cases h
  ·simp
  ·exact ⟨aEM (hin (by assumption)),tQ _ _⟩
  ·exact ⟨aEM (hin (by assumption)),tQ _ _⟩
  ·rename_i hc
   exact ⟨aEM (by rw [hc.1];decide),tQ _ _⟩
  simp
def vY (p:Nat) (t:Option Tk) (l:List (Nat×Tk)):List (Nat×Tk):=match t with
 |none=>l
 |some t=>(p,t)::l
def lexN:Nat→Bs→Nat→List (Nat×Tk) ⊕ Nat
 |0,_,_=>.inl []
 |_+1,[],_=>.inl []
 |f+1,c::r,p=>match yJ (c::r) with
  |none=>.inr p
  |some (t,k)=>match lexN f ((c::r).drop k) (p+k) with
   | .inr q=>.inr q
   | .inl l=>.inl (vY p t l)
def rY (b:Bs) (p:Nat):List (Nat×Tk) ⊕ Nat:=lexN b.length b p
theorem aSW:∀(f:Nat) (b:Bs) (p:Nat),b.length≤f→lexN f b p=lexN b.length b p:=by
 intro f
 induction f using Nat.strongRecOn with
 |_ f ih=>
  intro b p hf
  cases b with
  |nil=>cases f<;>rfl
  |cons c r=>
   cases f with
   |zero=>simp at hf
   |succ f=>
    simp only [lexN,List.length_cons] at hf ⊢
    split
    ·rfl
    rename_i t k hk
    have:=wA hk
    simp only [List.length_cons] at this
    rw [ih f (by omega) _ _ (by simp;omega),ih r.length (by omega) _ _ (by simp;omega)]
theorem aFK (p:Nat):rY [] p=.inl []:=rfl
theorem aBN {b:Bs} (hb:b ≠ []) (p:Nat):rY b p=match yJ b with
  |none=>.inr p
  |some (t,k)=>match rY (b.drop k) (p+k) with
   | .inr q=>.inr q
   | .inl l=>.inl (vY p t l):=by
 cases b with
 |nil=>exact absurd rfl hb
 |cons c r=>
  unfold rY
  simp only [List.length_cons,lexN]
  split
  ·rfl
  rename_i t k hk
  have:=wA hk
  simp only [List.length_cons] at this
  rw [aSW r.length _ _ (by simp;omega)]
theorem kG (s:ByteArray):(⟨(bs s).toArray⟩:ByteArray)=s:=by cases s;rfl
theorem aXH (src:ByteArray) (pos:Nat) (hp:pos<src.size) (l:List Tok):dN src pos l=match yJ ((bs src).drop pos) with
  |none=>none
  |some (t,k)=>some (pos+k,l++(vY pos t []).map fun q=>q.2.tok q.1):=by
 obtain ⟨c,h1,h2⟩:=xC hp
 have hn:nV src pos=pos+qW nmC ((bs src).drop pos):=aJS _ _ _ (by omega)
 have hd:tS src pos=pos+qW dgC ((bs src).drop pos):=aJS _ _ _ (by omega)
 have hl:dR src kJ pos=pos+qW kJ ((bs src).drop pos):=aJS _ _ _ (by omega)
 have hx:∀k,src.extract pos (pos+k)=⟨(((bs src).drop pos).take k).toArray⟩:=fun k=>by
  rw [←kG (src.extract pos (pos+k)),jG,List.take_drop,Nat.add_comm]
 have hdl:qW dgC ((bs src).drop pos)≤src.size - pos:=by
  have:=tQ dgC ((bs src).drop pos)
  rwa [List.length_drop,kY] at this
 have hf:tH src (tS src pos) pos 0=qM (((bs src).drop pos).take (qW dgC ((bs src).drop pos))) 0:=by
  rw [hd,aRC _ _ (by omega),List.take_drop,Nat.add_comm]
 have hcm:aDE src pos↔(c=47∧((bs src).drop (pos+1)).head? = some 47):=by
  have e0:src.extract pos src.size=⟨((bs src).drop pos).toArray⟩:=by
   rw [←kG (src.extract pos src.size),jG,List.take_of_length_le (by rw [kY];exact Nat.le_refl _)]
  unfold aDE
  rw [e0,h1]
  cases hr:(bs src).drop (pos+1) with
  |nil=>
   constructor
   ·intro h
    have:=h.1
    simp [ByteArray.size] at this
   rintro ⟨_,h⟩
   simp at h
  |cons d r=>
   constructor
   ·rintro ⟨_,h⟩
    have h:=congrArg bs h
    rw [jG] at h
    simp [ByteArray.size,bs] at h
    simp [h.1,h.2]
   rintro ⟨rfl,h⟩
   simp at h
   subst h
   refine ⟨by simp [ByteArray.size],?_⟩
   rw [←kG (ByteArray.extract _ _ _),jG]
   simp [ByteArray.size,bs]
 rw [hd] at hf
 simp only [dN,hn,hd,hl,hf,hcm,←h2,Nat.add_sub_cancel_left,hx]
 rw [h1]
 simp only [yJ]
 split
 ·rfl
 split
 ·simp [vY]
 split
 ·split
  ·rfl
  simp [vY,Tk.tok]
 split
 ·split
  ·rfl
  split<;>simp_all [vY,Tk.tok]
 split
 ·simp [vY]
 simp [vY,Tk.tok]
def pK (l:List (Nat×Tk)):List Tok:=l.map fun q=>q.2.tok q.1
theorem lexG_eq (src:ByteArray) (pos:Nat) (hp:pos≤src.size) (l:List Tok):vV src pos l=match rY ((bs src).drop pos) pos with
  | .inl l'=>.inl (l++pK l')
  | .inr q=>.inr q:=by
 induction h:src.size - pos using Nat.strongRecOn generalizing pos l with
 |_ n ih=>
  unfold vV
  split
  ·rename_i hlt
   have hs:=aXH src pos hlt l
   have hne:(bs src).drop pos ≠ []:=fun e=>by
    have:=congrArg List.length e
    rw [List.length_drop,kY] at this
    simp at this
    omega
   rw [aBN hne]
   split
   ·rename_i h0
    rw [h0] at hs
    cases hss:yJ ((bs src).drop pos) with
    |none=>rfl
    |some q=>rw [hss] at hs;cases hs
   rename_i p' l' h0
   have hok:=jJ hlt h0
   rw [h0] at hs
   cases hss:yJ ((bs src).drop pos) with
   |none=>rw [hss] at hs;cases hs
   |some q=>
    obtain ⟨t,k⟩:=q
    rw [hss] at hs
    simp only [Option.some.injEq,Prod.mk.injEq] at hs
    obtain ⟨rfl,rfl⟩:=hs
    rw [ih _ (by omega) (pos+k) (by omega) _ rfl]
    dsimp only
    rw [List.drop_drop]
    cases rY ((bs src).drop (pos+k)) (pos+k) with
    |inr q=>rfl
    |inl l'=>cases t<;>simp [vY,pK]
  rw [List.drop_eq_nil_of_le (by rw [kY];omega)]
  simp [aFK,pK]
end Go.Proofs.YtgbeechjghajcaaGreatDoor

namespace Go.Proofs.YtgbeechjghajcaaGreatDoor
open Go Go.Fw
set_option maxRecDepth 100000
set_option maxHeartbeats 99999999
def lexA (src:ByteArray):List Tok ⊕ Nat:=vV src 0 []
def aHI (src:ByteArray):gK:=match lexA src with
 | .inl l=>.ret (.tup [.buf 0,.v (.int .i64 0),.v (.int .i64 0)]) 1 [aZ l 0]
 | .inr p=>.ret (.tup [.v (.slice none 0 0),.v (.int .i64 p),.v (.int .i64 50)]) 0 []
theorem oJ {src:ByteArray} {pos:Nat} {l:List Tok} (hp:pos<src.size) (h:dN src pos l=none):vV src pos l=.inr pos:=by
 unfold vV
 rw [dif_pos hp]
 split
 ·rfl
 rename_i h'
 rw [h] at h';cases h'
theorem gC {src:ByteArray} {pos:Nat} {l:List Tok} (hp:pos<src.size) {p':Nat} {l':List Tok} (h:dN src pos l=some (p',l')):vV src pos l=vV src p' l':=by
 conv=>lhs;unfold vV
 rw [dif_pos hp]
 split
 ·rename_i h'
  rw [h] at h';cases h'
 rename_i h'
 rw [h] at h';cases h';rfl
theorem aIN (src:ByteArray) (pos:Nat) (l:List Tok) (hq:cls (aN src pos)=3):numO src pos (tS src pos) l=match dN src pos l with
  |none=>.pan (zM pos) 2 [scB src pos,aZ l 1]
  |some (p',l')=>.ret (.tup []) 3 [scB src p' 2,aZ l' 2]:=by
 simp only [numO,dN,hq]
 by_cases hb:1<tS src pos - pos∧aN src pos=48
 ·simp [hb]
 rw [if_neg hb]
 cases hz:tH src (tS src pos) pos 0 with
 |none=>simp [hb]
 |some n=>simp [hb]
theorem aCD (c:Nat):cls c=0∨cls c=1∨cls c=2∨cls c=3∨cls c=4:=by
 unfold cls
 repeat' split
 all_goals simp
abbrev scB3 (src:ByteArray) (pos:Int) (b:Nat):Nat×Blk:=(3,.cells 112 (scn src pos (.buf b)))
theorem aXZ (src:ByteArray) (hs:src.size≤65536):FnS Tryz.prog 19 0 [.v (.string src)] [] (fun _:Unit=>True) (fun _=>aHI src):=by
 obtain ⟨o,ho⟩:∃o,o=aHI src:=⟨_,rfl⟩
 rw [←ho]
 unfold aHI lexA at ho
 refine FnS.of Tryz.func19 (by kernel_rfl) rfl Tryz.ntmps19 rfl fun E0 F h w0 cs=>?_
 conv=>whnf
 refine gS ?_;conv=>whnf
 repeat ((first|refine oM ?_|refine oL ?_|refine oR ?_);(try intro _);conv=>whnf)
 refine aA.deferU ?_
 (try refine gS ?_);conv=>whnf
 refine aA.callV (fun Ez Hz Az Sz K=>aEJ) ?_
 conv=>whnf
 (try refine gS ?_);conv=>whnf
 refine aA.subR (nx':=4) (l':=[(5,.ptr 3 0),(4,.ptr 2 0),(3,.ptr 1 0),(2,.ptr 0 0),(0,.v (.string src))]) (H':=[(3,.cells 112 (scn src 0 (.v (.slice none 0 0)))),(2,.cells 33 [.v (.int .i64 0)]),(1,.cells 3 [.v (.int .i64 0)]),(0,.cells 42 [.v (.slice none 0 0)])]) [] ?_ sH sH
 refine aA.nilOwn (l':=[(5,.ptr 3 0),(4,.ptr 2 0),(3,.ptr 1 0),(2,.ptr 0 0),(0,.v (.string src))]) (H':=[(3,.cells 112 (scn src 0 (.buf 4))),(2,.cells 33 [.v (.int .i64 0)]),(1,.cells 3 [.v (.int .i64 0)]),(0,.cells 42 [.v (.slice none 0 0)])]) 47 4 ?_ (by rfl) (by rfl) (by rfl)
 refine aA.subR [] (aA.loop (fun (⟨pos,l⟩:Nat×List Tok)=>[(5,.ptr 3 0),(4,.ptr 2 0),(3,.ptr 1 0),(2,.ptr 0 0),(0,.v (.string src))]) (fun (⟨pos,l⟩:Nat×List Tok)=>[scB3 src pos 4,aZ l 4,(2,.cells 33 [.v (.int .i64 0)]),(1,.cells 3 [.v (.int .i64 0)]),(0,.cells 42 [.v (.slice none 0 0)])]) 5 (fun (⟨pos,l⟩:Nat×List Tok)=>(pos≤src.size∧l.length≤pos)∧vV src 0 []=vV src pos l) (fun (⟨pos,l⟩:Nat×List Tok)=>src.size - pos) ?round1 ((0,[])) ?J01) sH sH
 case J01=>exact (⟨by exact ⟨Nat.zero_le _,Nat.zero_le _⟩,rfl⟩)
 rintro ⟨pos,l⟩ hJ back
 try dsimp only at hJ back
 conv=>whnf
 try dsimp only
 refine gS ?_;conv=>whnf
 refine ⟨fun hk=>?_,fun hk=>?_⟩<;>conv=>whnf
 ·obtain ⟨c,hc⟩:∃c,c=aN src ((pos:Int)).toNat:=⟨_,rfl⟩
  have hb:c<256:=by rw [hc];exact oW src pos
  conv=>whnf
  refine aA.held tab (.fl 0 (.fl 1 (.fl 2 (.fl 3 (.fl 4 (.fl 5 (.fl 6 (.fl 7 (.fl 8 (.fl 9 (.fl 10 (.fl 11 (.fl 12 (.fl 13 (.fl 14 (.fl 15 (.fl 16 (.e1 17 [] .done)))))))))))))))))) (by kernel_rfl) ?_;conv=>whnf
  (try refine gR ?_);conv=>whnf
  repeat ((first|refine oM ?_|refine oL ?_|refine oR ?_|refine oB ?_);(try intro _);conv=>whnf)
  conv=>whnf
  rw [←hc]
  conv=>whnf
  have hcc:c=aN src pos:=hc
  rw [ldR_at (aKQ hb) (by rfl) (by rfl) (by rfl)]
  have hP:pos<src.size:=by omega
  rcases aCD c with hq|hq|hq|hq|hq<;>rw [hq]
  ·have hs0:dN src pos l=none:=by simp only [dN,←hcc,hq,if_true]
   rw [hJ.2,oJ hP hs0] at ho
   subst ho
   conv=>whnf
   repeat ((first|refine oM ?_|refine oL ?_|refine oR ?_|refine oB ?_);(try intro _);conv=>whnf)
   conv=>whnf
   refine aV.callN (aAW src pos) [3,4] ?_ sH ?CNa2
   case CNa2=>rfl
   intro _ _
   conv=>whnf
   refine aE.deferN (aFL _ _ _ pos) [0,1,2] ?_ ⟨by rfl,by rfl,by rfl,trivial⟩ rfl (fun e=>by cases e)
   intro _ _
   (conv=>whnf)
   refine aE.ret tab Tryz.func19 rfl (aL.mk () trivial [] (by exact trivial) rfl rfl (aY rfl rfl))
  ·have hs0:dN src pos l=some (pos+1,l):=by simp [dN,←hcc,hq]
   conv=>whnf
   repeat ((first|refine oM ?_|refine oL ?_|refine oR ?_|refine oB ?_);(try intro _);conv=>whnf)
   conv=>whnf
   refine aV.callN (pass_fn src pos ⟨by omega,by omega⟩) [3,4] ?_ sH ?CNa3
   case CNa3=>rfl
   intro _ _
   conv=>whnf
   try refine oB ?_
   (try refine gR ?_);conv=>whnf
   (try refine gS ?_);conv=>whnf
   refine aA.subR [] (back ((pos+1,l)) (by exact (⟨by dsimp only;omega,hJ.2.trans (gC hP hs0)⟩)) (by (try dsimp only);omega)) sH sH
  ·by_cases hbad:32<nV src pos - pos
   ·have C:=aSK src hs pos (by omega) l (by omega)
    simp only [endO,if_pos hbad] at C
    have hs0:dN src pos l=none:=by simp [dN,←hcc,hq,hbad]
    rw [hJ.2,oJ hP hs0] at ho
    subst ho
    conv=>whnf
    repeat ((first|refine oM ?_|refine oL ?_|refine oR ?_|refine oB ?_);(try intro _);conv=>whnf)
    conv=>whnf
    refine aV.callN (C) [3,4] ?_ sH ?CNa5
    case CNa5=>rfl
    intro _ _
    conv=>whnf
    refine aE.deferN (aFL _ _ _ pos) [0,1,2] ?_ ⟨by rfl,by rfl,by rfl,trivial⟩ rfl (fun e=>by cases e)
    intro _ _
    (conv=>whnf)
    refine aE.ret tab Tryz.func19 rfl (aL.mk () trivial [] (by exact trivial) rfl rfl (aY rfl rfl))
   have C:=aSK src hs pos (by omega) l (by omega)
   simp only [endO,if_neg hbad] at C
   have hs0:dN src pos l=some (nV src pos,l++[⟨1,pos,src.extract pos (nV src pos),0⟩]):=by simp [dN,←hcc,hq,hbad]
   have hok:=jJ hP hs0
   conv=>whnf
   repeat ((first|refine oM ?_|refine oL ?_|refine oR ?_|refine oB ?_);(try intro _);conv=>whnf)
   conv=>whnf
   refine aV.callN (C) [3,4] ?_ sH ?CNa6
   case CNa6=>rfl
   intro _ _
   conv=>whnf
   try refine oB ?_
   (try refine gR ?_);conv=>whnf
   (try refine gS ?_);conv=>whnf
   refine aA.subR [(4,5)] (back ((nV src pos,l++[⟨1,pos,src.extract pos (nV src pos),0⟩])) (by exact (⟨by dsimp only;omega,hJ.2.trans (gC hP hs0)⟩)) (by (try dsimp only);omega)) sH sH
  ·have hd:pos<tS src pos:=xH hP (by rw [←hcc];simp [fX,hq])
   cases hs0:dN src pos l with
   |none=>
    have C:=aHQ src hs pos (by omega) hd l (by omega)
    have hO:numO src pos (tS src pos) l=.pan (zM pos) 2 [scB src pos,aZ l 1]:=by
     have:=aIN src pos l (by rw [←hcc];exact hq)
     rw [hs0] at this
     exact this
    simp only [hO] at C
    rw [hJ.2,oJ hP hs0] at ho
    subst ho
    conv=>whnf
    repeat ((first|refine oM ?_|refine oL ?_|refine oR ?_|refine oB ?_);(try intro _);conv=>whnf)
    conv=>whnf
    refine aV.callN (C) [3,4] ?_ sH ?CNa8
    case CNa8=>rfl
    intro _ _
    conv=>whnf
    refine aE.deferN (aFL _ _ _ pos) [0,1,2] ?_ ⟨by rfl,by rfl,by rfl,trivial⟩ rfl (fun e=>by cases e)
    intro _ _
    (conv=>whnf)
    refine aE.ret tab Tryz.func19 rfl (aL.mk () trivial [] (by exact trivial) rfl rfl (aY rfl rfl))
   |some q=>
    obtain ⟨p',l'⟩:=q
    have hok:=jJ hP hs0
    have C:=aHQ src hs pos (by omega) hd l (by omega)
    have hO:numO src pos (tS src pos) l=.ret (.tup []) 3 [scB src p' 2,aZ l' 2]:=by
     have:=aIN src pos l (by rw [←hcc];exact hq)
     rw [hs0] at this
     exact this
    simp only [hO] at C
    conv=>whnf
    repeat ((first|refine oM ?_|refine oL ?_|refine oR ?_|refine oB ?_);(try intro _);conv=>whnf)
    conv=>whnf
    refine aV.callN (C) [3,4] ?_ sH ?CNa9
    case CNa9=>rfl
    intro _ _
    conv=>whnf
    try refine oB ?_
    (try refine gR ?_);conv=>whnf
    (try refine gS ?_);conv=>whnf
    refine aA.subR [(4,5)] (back ((p',l')) (by exact (⟨by dsimp only;omega,hJ.2.trans (gC hP hs0)⟩)) (by (try dsimp only);omega)) sH sH
  have C:=sign_fn src hs pos hP l (by omega)
  by_cases hcm:aDE src pos
  ·simp only [aMC,if_pos hcm] at C
   have hs0:dN src pos l=some (dR src kJ pos,l):=by simp only [dN,←hcc,hq,if_pos hcm];rfl
   have hok:=jJ hP hs0
   conv=>whnf
   repeat ((first|refine oM ?_|refine oL ?_|refine oR ?_|refine oB ?_);(try intro _);conv=>whnf)
   conv=>whnf
   refine aV.callN (C) [3,4] ?_ sH ?CNa11
   case CNa11=>rfl
   intro _ _
   conv=>whnf
   try refine oB ?_
   (try refine gR ?_);conv=>whnf
   (try refine gS ?_);conv=>whnf
   refine aA.subR [] (back ((dR src kJ pos,l)) (by exact (⟨by dsimp only;omega,hJ.2.trans (gC hP hs0)⟩)) (by (try dsimp only);omega)) sH sH
  simp only [aMC,if_neg hcm] at C
  have hs0:dN src pos l=some (pos+1,l++[⟨3,pos,src.extract pos (pos+1),0⟩]):=by simp only [dN,←hcc,hq,if_neg hcm];rfl
  have hok:=jJ hP hs0
  conv=>whnf
  repeat ((first|refine oM ?_|refine oL ?_|refine oR ?_|refine oB ?_);(try intro _);conv=>whnf)
  conv=>whnf
  refine aV.callN (C) [3,4] ?_ sH ?CNa13
  case CNa13=>rfl
  intro _ _
  conv=>whnf
  try refine oB ?_
  (try refine gR ?_);conv=>whnf
  (try refine gS ?_);conv=>whnf
  refine aA.subR [(4,5)] (back ((pos+1,l++[⟨3,pos,src.extract pos (pos+1),0⟩])) (by exact (⟨by dsimp only;omega,hJ.2.trans (gC hP hs0)⟩)) (by (try dsimp only);omega)) sH sH
 conv=>whnf
 have hend:vV src pos l=.inl l:=by
  unfold vV
  rw [dif_neg (by omega)]
 rw [hJ.2,hend] at ho
 subst ho
 refine aA.retU ?_
 refine aE.deferN aYU [0,1,2] ?_ trivial rfl (fun e=>by cases e)
 intro _ _
 conv=>whnf
 refine aE.ret tab Tryz.func19 rfl (aL.mk () trivial [(0,4)] (by exact ⟨by rfl,trivial⟩) rfl rfl (aY rfl rfl))

theorem cls2 (c:Nat):cls c=2↔(97≤c∧c≤122)∨(65≤c∧c≤90):=by
 unfold cls;repeat' split
 all_goals omega
theorem cls3 (c:Nat):cls c=3↔(48≤c∧c≤57):=by
 unfold cls;repeat' split
 all_goals omega
theorem cls1 (c:Nat):cls c=1↔(c=32∨c=9∨c=10∨c=13):=by
 unfold cls;repeat' split
 all_goals omega
theorem cls4 (c:Nat):cls c=4↔c ∈ [123,125,40,41,44,59,61,35,47,60,33,45,46,58,43]:=by
 unfold cls
 simp only [List.mem_cons,List.not_mem_nil,or_false]
 repeat' split
 all_goals omega
theorem rR (c:Nat):nmC c=true↔(cls c=2∨cls c=3∨c=95):=by
 simp only [nmC,fX,Bool.or_eq_true,decide_eq_true_eq]
 omega
theorem aKG (c:Nat):dgC c=true↔cls c=3:=by
 simp only [dgC,fX,Bool.or_eq_true,decide_eq_true_eq,cls3]
 omega
theorem kK {h:Array Obj} (c:Nat):FnV Tryz.prog 83 #[.int .u8 c] h fun r h'=>r=.bool (decide (cls c=2))∧bW h.size h h':=by
 refine Fn.ofS (args:=[.int .u8 c]) Tryz.func83 (by kernel_rfl) rfl Tryz.ntmps83 rfl fun w0 cs=>?_
 conv=>whnf
 refine gS ?_;conv=>whnf
 repeat' (refine And.intro (fun hs=>?_) (fun hs=>?_)<;>(conv=>whnf))
 all_goals (
  refine aA.retU (aE.ret tab Tryz.func83 rfl fun Ez Hz Az Sz K=>⟨_,rfl,?_,K.keeps⟩)
  first|exact congrArg Value.bool (decide_eq_true ((cls2 c).2 (by omega))).symm|exact congrArg Value.bool (decide_eq_false (fun e=>by have:=(cls2 c).1 e;omega)).symm|exact congrArg Value.bool (decide_eq_decide.2 ((cls2 c).trans (by omega)).symm))
theorem kC {h:Array Obj} (c:Nat):FnV Tryz.prog 86 #[.int .u8 c] h fun r h'=>r=.bool (decide (cls c=3))∧bW h.size h h':=by
 refine Fn.ofS (args:=[.int .u8 c]) Tryz.func86 (by kernel_rfl) rfl Tryz.ntmps86 rfl fun w0 cs=>?_
 conv=>whnf
 refine gS ?_;conv=>whnf
 repeat' (refine And.intro (fun hs=>?_) (fun hs=>?_)<;>(conv=>whnf))
 all_goals (
  refine aA.retU (aE.ret tab Tryz.func86 rfl fun Ez Hz Az Sz K=>⟨_,rfl,?_,K.keeps⟩)
  first|exact congrArg Value.bool (decide_eq_true ((cls3 c).2 (by omega))).symm|exact congrArg Value.bool (decide_eq_false (fun e=>by have:=(cls3 c).1 e;omega)).symm|exact congrArg Value.bool (decide_eq_decide.2 ((cls3 c).trans (by omega)).symm))
theorem aIG {h:Array Obj} (c:Nat):FnV Tryz.prog 82 #[.int .u8 c] h fun r h'=>r=.bool (decide (cls c=1))∧bW h.size h h':=by
 refine Fn.ofS (args:=[.int .u8 c]) Tryz.func82 (by kernel_rfl) rfl Tryz.ntmps82 rfl fun w0 cs=>?_
 conv=>whnf
 refine gS ?_;conv=>whnf
 repeat' (refine And.intro (fun hs=>?_) (fun hs=>?_)<;>(conv=>whnf))
 all_goals (
  refine aA.retU (aE.ret tab Tryz.func82 rfl fun Ez Hz Az Sz K=>⟨_,rfl,?_,K.keeps⟩)
  first|exact congrArg Value.bool (decide_eq_true ((cls1 c).2 (by omega))).symm|exact congrArg Value.bool (decide_eq_false (fun e=>by have:=(cls1 c).1 e;omega)).symm|exact congrArg Value.bool (decide_eq_decide.2 ((cls1 c).trans (by omega)).symm))
theorem zW {h:Array Obj} (c:Nat):FnV Tryz.prog 84 #[.int .u8 c] h fun r h'=>r=.bool (nmC c)∧bW h.size h h':=by
 refine Fn.ofS (args:=[.int .u8 c]) Tryz.func84 (by kernel_rfl) rfl Tryz.ntmps84 rfl fun w0 cs=>?_
 conv=>whnf
 refine gS ?_;conv=>whnf
 by_cases h2:cls c=2
 ·refine aA.callV (fun Ez Hz Az Sz K=>kK c) ?_
  conv=>whnf
  rw [decide_eq_true h2]
  try dsimp only
  (try refine gS ?_);conv=>whnf
  refine aA.retU (aE.ret tab Tryz.func84 rfl fun Ez Hz Az Sz K=>⟨_,rfl,?_,K.keeps⟩)
  exact congrArg Value.bool ((rR c).2 (.inl h2)).symm
 refine aA.callV (fun Ez Hz Az Sz K=>kK c) ?_
 conv=>whnf
 rw [decide_eq_false h2]
 try dsimp only
 (try refine gS ?_);conv=>whnf
 by_cases h3:cls c=3
 ·refine aA.callV (fun Ez Hz Az Sz K=>kC c) ?_
  conv=>whnf
  rw [decide_eq_true h3]
  (try refine gS ?_);conv=>whnf
  refine aA.retU (aE.ret tab Tryz.func84 rfl fun Ez Hz Az Sz K=>⟨_,rfl,?_,K.keeps⟩)
  exact congrArg Value.bool ((rR c).2 (.inr (.inl h3))).symm
 refine aA.callV (fun Ez Hz Az Sz K=>kC c) ?_
 conv=>whnf
 rw [decide_eq_false h3]
 (try refine gS ?_);conv=>whnf
 refine aA.retU (aE.ret tab Tryz.func84 rfl fun Ez Hz Az Sz K=>⟨_,rfl,?_,K.keeps⟩)
 refine congrArg Value.bool ?_
 cases hn:nmC c with
 |true=>
  have:=(rR c).1 hn
  exact decide_eq_true (by omega)
 |false=>
  exact decide_eq_false (fun e=>by
   have:=(rR c).2 (.inr (.inr (by omega)))
   rw [hn] at this;cases this)
abbrev aDC:ByteArray:=⟨#[123,125,40,41,59,44,61,35,47,60,33,45,46,58,43]⟩
theorem aOI:(∀j,j<15→cls (aN aDC j)=4)∧(∀c,c ∈ [123,125,40,41,44,59,61,35,47,60,33,45,46,58,43] → ∃j,j<15∧aN aDC j=c):=by decide
theorem tI {h:Array Obj} (c:Nat):FnV Tryz.prog 88 #[.int .u8 c] h fun r h'=>r=.bool (decide (cls c=4))∧bW h.size h h':=by
 refine Fn.ofS (args:=[.int .u8 c]) Tryz.func88 (by kernel_rfl) rfl Tryz.ntmps88 rfl fun w0 cs=>?_
 conv=>whnf
 refine gS ?_;conv=>whnf
 refine aA.subR [] (aA.loop (fun (i:Nat)=>[(4,.v (.int .i64 i)),(3,.v (.string aDC)),(0,.v (.int .u8 c))]) (fun (i:Nat)=>[]) 0 (fun (i:Nat)=>i≤15 ∧ ∀j,j<i→aN aDC j≠c) (fun (i:Nat)=>15 - i) ?round1 (0) ?J01) sH sH
 case J01=>exact (⟨Nat.zero_le _,fun _ h=>absurd h (Nat.not_lt_zero _)⟩)
 rintro i hJ back
 try dsimp only at hJ back
 conv=>whnf
 try dsimp only
 refine gS ?_;conv=>whnf
 refine ⟨fun hk=>?_,fun hk=>?_⟩<;>conv=>whnf
 ·conv=>whnf
  repeat ((first|refine oM ?_|refine oL ?_|refine oR ?_);(try intro _);conv=>whnf)
  have hi:i<15:=by
   have:aDC.size=15:=rfl
   omega
  refine ⟨fun hx=>?_,fun hx=>?_⟩<;>conv=>whnf
  ·conv=>whnf
   refine aA.retU (aE.ret tab Tryz.func88 rfl fun Ez Hz Az Sz K=>⟨_,rfl,?_,K.keeps⟩)
   have hx':aN aDC i=c:=by exact_mod_cast hx
   exact congrArg Value.bool (decide_eq_true (hx'▸aOI.1 i hi)).symm
  conv=>whnf
  repeat ((first|refine oM ?_|refine oL ?_|refine oR ?_);(try intro _);conv=>whnf)
  have hx':aN aDC i≠c:=fun e=>hx (by exact_mod_cast e)
  refine aA.subR [] (back (i+1) (by exact (⟨hi,fun j hj=>(Nat.lt_succ_iff_lt_or_eq.1 hj).elim (hJ.2 j) (fun e=>e▸hx')⟩)) (by (try dsimp only);omega)) sH sH
 conv=>whnf
 refine aA.retU (aE.ret tab Tryz.func88 rfl fun Ez Hz Az Sz K=>⟨_,rfl,?_,K.keeps⟩)
 have hi:i=15:=by
  have:aDC.size=15:=rfl
  omega
 refine congrArg Value.bool (decide_eq_false fun e=>?_).symm
 obtain ⟨j,h1,h2⟩:=aOI.2 c ((cls4 c).1 e)
 exact hJ.2 j (by omega) h2
abbrev uJ (s:ByteArray):Prop:=(1≤s.size∧s.size≤32)∧cls (aN s 0)=2 ∧ ∀i,i<s.size→nmC (aN s i)=true
theorem aAE {h:Array Obj} (s:ByteArray):FnV Tryz.prog 85 #[.string s] h fun r h'=>r=.bool (decide (uJ s))∧bW h.size h h':=by
 refine Fn.ofS (args:=[.string s]) Tryz.func85 (by kernel_rfl) rfl Tryz.ntmps85 rfl fun w0 cs=>?_
 conv=>whnf
 refine gS ?_;conv=>whnf
 refine ⟨fun h1=>?_,fun h1=>?_⟩<;>conv=>whnf
 ·conv=>whnf
  refine aA.retU (aE.ret tab Tryz.func85 rfl fun Ez Hz Az Sz K=>⟨_,rfl,?_,K.keeps⟩)
  exact congrArg Value.bool (decide_eq_false fun e=>by have:=e.1;omega).symm
 conv=>whnf
 refine ⟨fun h2=>?_,fun h2=>?_⟩<;>conv=>whnf
 ·conv=>whnf
  refine aA.retU (aE.ret tab Tryz.func85 rfl fun Ez Hz Az Sz K=>⟨_,rfl,?_,K.keeps⟩)
  exact congrArg Value.bool (decide_eq_false fun e=>by have:=e.1;omega).symm
 conv=>whnf
 repeat ((first|refine oM ?_|refine oL ?_|refine oR ?_);(try intro _);conv=>whnf)
 by_cases h3:cls (aN s 0)=2
 ·refine aA.callV (fun Ez Hz Az Sz K=>kK (aN s 0)) ?_
  conv=>whnf
  rw [decide_eq_true h3]
  try dsimp only
  (try refine gS ?_);conv=>whnf
  refine aA.subR [] (aA.loop (fun (i:Nat)=>[(3,.v (.int .i64 i)),(0,.v (.string s))]) (fun (i:Nat)=>[]) 0 (fun (i:Nat)=>i≤s.size ∧ ∀j,j<i→nmC (aN s j)=true) (fun (i:Nat)=>s.size - i) ?round3 (0) ?J03) sH sH
  case J03=>exact (⟨Nat.zero_le _,fun _ h=>absurd h (Nat.not_lt_zero _)⟩)
  rintro i hJ back
  conv=>whnf
  refine gS ?_;conv=>whnf
  refine ⟨fun hk=>?_,fun hk=>?_⟩<;>conv=>whnf
  ·conv=>whnf
   repeat ((first|refine oM ?_|refine oL ?_|refine oR ?_);(try intro _);conv=>whnf)
   by_cases h4:nmC (aN s i)=true
   ·refine aA.callV (fun Ez Hz Az Sz K=>zW (aN s i)) ?_
    conv=>whnf
    rw [h4]
    (try refine gS ?_);conv=>whnf
    repeat ((first|refine oM ?_|refine oL ?_|refine oR ?_);(try intro _);conv=>whnf)
    refine aA.subR [] (back (i+1) (by exact (⟨by omega,fun j hj=>(Nat.lt_succ_iff_lt_or_eq.1 hj).elim (hJ.2 j) (fun e=>e▸h4)⟩)) (by (try dsimp only);omega)) sH sH
   refine aA.callV (fun Ez Hz Az Sz K=>zW (aN s i)) ?_
   conv=>whnf
   rw [Bool.eq_false_iff.2 h4]
   (try refine gS ?_);conv=>whnf
   refine aA.retU (aE.ret tab Tryz.func85 rfl fun Ez Hz Az Sz K=>⟨_,rfl,?_,K.keeps⟩)
   exact congrArg Value.bool (decide_eq_false fun e=>h4 (e.2.2 i (by omega))).symm
  conv=>whnf
  refine aA.retU (aE.ret tab Tryz.func85 rfl fun Ez Hz Az Sz K=>⟨_,rfl,?_,K.keeps⟩)
  exact congrArg Value.bool (decide_eq_true (⟨by omega,h3,fun j hj=>hJ.2 j (by omega)⟩:uJ s)).symm
 refine aA.callV (fun Ez Hz Az Sz K=>kK (aN s 0)) ?_
 conv=>whnf
 rw [decide_eq_false h3]
 try dsimp only
 (try refine gS ?_);conv=>whnf
 refine aA.retU (aE.ret tab Tryz.func85 rfl fun Ez Hz Az Sz K=>⟨_,rfl,?_,K.keeps⟩)
 exact congrArg Value.bool (decide_eq_false fun e=>h3 e.2.1).symm
theorem zK {h:Array Obj} (s:ByteArray) (hs:0<s.size∧s.size≤65536) (hd:∀i,i<s.size→48≤aN s i∧aN s i≤57):FnV Tryz.prog 87 #[.string s] h fun r h'=>r=(match qM (bs s) 0 with|none=>.tuple #[.int .i64 0,.bool false]|some n=>.tuple #[.int .i64 n,.bool (decide (s.size=1∨aN s 0≠48))])∧bW h.size h h':=by
 refine Fn.ofS (args:=[.string s]) Tryz.func87 (by kernel_rfl) rfl Tryz.ntmps87 rfl fun w0 cs=>?_
 conv=>whnf
 refine gS ?_;conv=>whnf
 refine aA.subR [] (aA.loop (fun (⟨i,a⟩:Nat×Nat)=>[(5,.v (.int .i64 i)),(4,.v (.int .i64 a)),(0,.v (.string s))]) (fun (⟨i,a⟩:Nat×Nat)=>[]) 0 (fun (⟨i,a⟩:Nat×Nat)=>(i≤s.size∧a≤1099511627776)∧qM (bs s) 0=qM ((bs s).drop i) a) (fun (⟨i,a⟩:Nat×Nat)=>s.size - i) ?round5 ((0,0)) ?J05) sH sH
 case J05=>exact (⟨⟨Nat.zero_le _,Nat.zero_le _⟩,rfl⟩)
 rintro ⟨i,a⟩ hJ back
 try dsimp only at hJ back
 conv=>whnf
 try dsimp only
 refine gS ?_;conv=>whnf
 refine ⟨fun hk=>?_,fun hk=>?_⟩<;>conv=>whnf
 ·obtain ⟨c,e1,e2⟩:=xC (s:=s) (i:=i) (by omega)
  have hdi:=hd i (by omega)
  have hm:10*(a:Int)+(((aN s i:Nat):Int) - 48)%256=((10*a+(aN s i - 48):Nat):Int):=by omega
  obtain ⟨x,hx⟩:∃x,x=aN s ((i:Int)).toNat:=⟨_,rfl⟩
  have hx':aN s i=x:=hx.symm
  rw [hx'] at hm hdi
  rw [hx'] at e2
  conv=>whnf
  repeat ((first|refine oM ?_|refine oL ?_|refine oR ?_);(try intro _);conv=>whnf)
  rw [←hx]
  conv=>whnf
  rw [hm]
  refine ⟨fun hg=>?_,fun hg=>?_⟩<;>conv=>whnf
  ·conv=>whnf
   have hn:qM (bs s) 0=none:=by
    rw [hJ.2,e1]
    simp only [qM,e2]
    rw [if_neg (by omega)]
   rw [hn]
   refine aA.retU (aE.ret tab Tryz.func87 rfl fun _ _ _ _ K=>⟨_,rfl,rfl,K.keeps⟩)
  conv=>whnf
  repeat ((first|refine oM ?_|refine oL ?_|refine oR ?_);(try intro _);conv=>whnf)
  refine aA.subR [] (back ((i+1,10*a+(x - 48))) (by exact (⟨by dsimp only;omega,by rw [hJ.2,e1];simp only [qM,e2];rw [if_pos (by omega)]⟩)) (by (try dsimp only);omega)) sH sH
 conv=>whnf
 have hn:qM (bs s) 0=some a:=by
  rw [hJ.2,List.drop_eq_nil_of_le (by rw [kY];omega)];rfl
 rw [hn]
 refine aA.held tab (.fl 0 (.fl 1 (.fl 2 (.fl 3 (.fl 4 (.fl 5 (.fl 6 (.fl 7 (.fl 8 (.fl 9 (.fl 10 .done))))))))))) (by kernel_rfl) ?_;conv=>whnf
 (try refine gR ?_);conv=>whnf
 refine ⟨fun h1=>?_,fun h1=>?_⟩<;>conv=>whnf
 ·try refine gR ?_
  conv=>whnf
  (try refine gS ?_);conv=>whnf
  refine aA.retU (aE.ret tab Tryz.func87 rfl fun Ez Hz Az Sz K=>⟨_,rfl,?_,K.keeps⟩)
  simp [show s.size=1 by omega]
  rfl
 (try refine gR ?_);conv=>whnf
 repeat ((first|refine oM ?_|refine oL ?_|refine oR ?_|refine oB ?_);(try intro _);conv=>whnf)
 (try refine gS ?_);conv=>whnf
 refine aA.retU (aE.ret tab Tryz.func87 rfl fun Ez Hz Az Sz K=>⟨_,rfl,?_,K.keeps⟩)
 have h1':s.size≠1:=by omega
 have:((aN s 0:Nat):Int)=48↔aN s 0=48:=by omega
 simp [h1',this]
 rfl

theorem qJ (s:ByteArray) {lo hi i:Nat} (hh:hi≤s.size) (h:lo+i<hi):aN (s.extract lo hi) i=aN s (lo+i):=by
 unfold aN
 have e:(s.extract lo hi).data.toList=((bs s).take hi).drop lo:=jG s lo hi
 rw [e]
 simp only [List.getD_eq_getElem?_getD,List.getElem?_drop,List.getElem?_take,if_pos h]
theorem aDM (s:ByteArray) {lo hi:Nat} (hh:hi≤s.size):(s.extract lo hi).size=hi - lo:=by
 rw [←kY,jG]
 simp [kY,Nat.min_eq_left hh]
theorem zR (src:ByteArray) (pos:Nat) (hp:pos<src.size):aDE src pos↔(aN src pos=47∧pos+1<src.size∧aN src (pos+1)=47):=by
 unfold aDE
 rw [aDM src (Nat.le_refl _)]
 have hz:(⟨#[47,47]⟩:ByteArray).size=2:=rfl
 rw [hz]
 constructor
 ·rintro ⟨h1,h2⟩
  have b0:=congrArg (aN · 0) h2
  have b1:=congrArg (aN · 1) h2
  rw [qJ _ (by rw [aDM src (Nat.le_refl _)];exact h1) (by omega),qJ _ (Nat.le_refl _) (by omega)] at b0 b1
  exact ⟨b0,by omega,b1⟩
 rintro ⟨h1,h2,h3⟩
 refine ⟨by omega,?_⟩
 rw [←kG (ByteArray.extract _ _ _),jG,jG]
 obtain ⟨c,e1,e2⟩:=xC hp
 obtain ⟨d,e3,e4⟩:=xC h2
 have ht:List.take src.size (bs src)=bs src:=List.take_of_length_le (by rw [kY];exact Nat.le_refl _)
 rw [ht,e1,e3]
 have hc:c=47:=UInt8.toNat_inj.1 (by rw [e2,h1];rfl)
 have hd:d=47:=UInt8.toNat_inj.1 (by rw [e4,h3];rfl)
 rw [hc,hd]
 rfl
theorem oX (l:List Tok) (a b:Int) (t:ByteArray) (n:Int):l.map Tok.row++tC 4 1 [Value.int .i64 a,.int .i64 b,.string t,.int .i64 n]=(l++[(⟨a,b,t,n⟩:Tok)]).map Tok.row:=by rw [List.map_append];rfl
theorem rlex_fn (src:ByteArray) (hs:src.size≤65536):FnS Tryz.prog 25 0 [.v (.string src)] [] (fun _:Unit=>True) (fun _=>aHI src):=by
 obtain ⟨o,ho⟩:∃o,o=aHI src:=⟨_,rfl⟩
 rw [←ho]
 unfold aHI lexA at ho
 refine FnS.of Tryz.func25 (by kernel_rfl) rfl Tryz.ntmps25 rfl fun E0 F h w0 cs=>?_
 conv=>whnf
 refine gS ?_;conv=>whnf
 repeat ((first|refine oM ?_|refine oL ?_|refine oR ?_);(try intro _);conv=>whnf)
 refine aA.subR [] (aA.loop (fun (⟨pos,l⟩:Nat×List Tok)=>[(6,.v (.int .i64 pos)),(5,.buf 0),(0,.v (.string src))]) (fun (⟨pos,l⟩:Nat×List Tok)=>[aZ l 0]) 1 (fun (⟨pos,l⟩:Nat×List Tok)=>(pos≤src.size∧l.length≤pos)∧vV src 0 []=vV src pos l) (fun (⟨pos,l⟩:Nat×List Tok)=>src.size - pos) ?round1 ((0,[])) ?J01) sH sH
 case J01=>exact (⟨by exact ⟨Nat.zero_le _,Nat.zero_le _⟩,rfl⟩)
 rintro ⟨pos,l⟩ hJ back
 try dsimp only at hJ back
 conv=>whnf
 try dsimp only
 refine gS ?_;conv=>whnf
 refine ⟨fun hk=>?_,fun hk=>?_⟩<;>conv=>whnf
 ·have hP:pos<src.size:=by omega
  conv=>whnf
  repeat ((first|refine oM ?_|refine oL ?_|refine oR ?_);(try intro _);conv=>whnf)
  by_cases h1:cls (aN src pos)=1
  ·refine aA.callV (fun Ez Hz Az Sz K=>aIG (aN src pos)) ?_
   conv=>whnf
   rw [decide_eq_true h1]
   (try refine gS ?_);conv=>whnf
   repeat ((first|refine oM ?_|refine oL ?_|refine oR ?_);(try intro _);conv=>whnf)
   have hs0:dN src pos l=some (pos+1,l):=by simp [dN,h1]
   refine aA.subR [] (back ((pos+1,l)) (by exact (⟨by dsimp only;omega,hJ.2.trans (gC hP hs0)⟩)) (by (try dsimp only);omega)) sH sH
  refine aA.callV (fun Ez Hz Az Sz K=>aIG (aN src pos)) ?_
  conv=>whnf
  rw [decide_eq_false h1]
  (try refine gS ?_);conv=>whnf
  repeat ((first|refine oM ?_|refine oL ?_|refine oR ?_);(try intro _);conv=>whnf)
  refine ⟨fun ha=>?_,fun ha=>?_⟩<;>conv=>whnf
  ·have h4:cls (aN src pos)=4:=by rw [show aN src pos=47 by exact_mod_cast ha];decide
   conv=>whnf
   repeat ((first|refine oM ?_|refine oL ?_|refine oR ?_);(try intro _);conv=>whnf)
   refine ⟨fun hb=>?_,fun hb=>?_⟩<;>conv=>whnf
   ·conv=>whnf
    repeat ((first|refine oM ?_|refine oL ?_|refine oR ?_);(try intro _);conv=>whnf)
    refine ⟨fun hc=>?_,fun hc=>?_⟩<;>conv=>whnf
    ·have hcm:aDE src pos:=(zR src pos hP).2 ⟨by exact_mod_cast ha,by omega,by exact_mod_cast hc⟩
     have hs0:dN src pos l=some (dR src kJ pos,l):=by simp only [dN,h4,if_pos hcm];rfl
     have hok:=jJ hP hs0
     have back0:=back
     have hJ0:=hJ
     conv=>whnf
     refine aA.subR [] (aA.loop (fun (i:Nat)=>[(6,.v (.int .i64 i)),(5,.buf 0),(0,.v (.string src))]) (fun (i:Nat)=>[aZ l 0]) 1 (fun (i:Nat)=>(pos≤i∧i≤src.size)∧dR src kJ pos=dR src kJ i) (fun (i:Nat)=>src.size - i) ?round3 (pos) ?J03) sH sH
     case J03=>exact (⟨by omega,rfl⟩)
     rintro i hJ back
     conv=>whnf
     refine gS ?_;conv=>whnf
     refine ⟨fun hi=>?_,fun hi=>?_⟩<;>conv=>whnf
     ·conv=>whnf
      repeat ((first|refine oM ?_|refine oL ?_|refine oR ?_);(try intro _);conv=>whnf)
      refine ⟨fun hx=>?_,fun hx=>?_⟩<;>conv=>whnf
      ·conv=>whnf
       have hx':aN src i=10:=by exact_mod_cast hx
       have hn:dR src kJ pos=i:=by
        rw [hJ.2]
        unfold dR
        rw [dif_pos (by omega),hx'];rfl
       have back:=back0
       rw [hn] at hs0 hok
       refine aA.subR [] (back ((i,l)) (by exact (⟨by dsimp only;omega,hJ0.2.trans (gC hP hs0)⟩)) (by (try dsimp only);omega)) sH sH
      conv=>whnf
      repeat ((first|refine oM ?_|refine oL ?_|refine oR ?_);(try intro _);conv=>whnf)
      have hx':¬aN src i=10:=fun e=>hx (by exact_mod_cast e)
      have hn:dR src kJ pos=dR src kJ (i+1):=by
       rw [hJ.2]
       conv=>lhs;unfold dR
       rw [dif_pos (by omega),if_pos (by simp [kJ,hx'])]
      refine aA.subR [] (back (i+1) (by exact (⟨by omega,hn⟩)) (by (try dsimp only);omega)) sH sH
     conv=>whnf
     have hn:dR src kJ pos=i:=by
      rw [hJ.2]
      unfold dR
      rw [dif_neg (by omega)]
     have back:=back0
     rw [hn] at hs0 hok
     refine aA.subR [] (back ((i,l)) (by exact (⟨by dsimp only;omega,hJ0.2.trans (gC hP hs0)⟩)) (by (try dsimp only);omega)) sH sH
    have hcm:¬aDE src pos:=fun e=>hc (by have:=((zR src pos hP).1 e).2.2;exact_mod_cast this)
    conv=>whnf
    repeat ((first|refine oM ?_|refine oL ?_|refine oR ?_);(try intro _);conv=>whnf)
    have hs0:dN src pos l=some (pos+1,l++[⟨3,pos,src.extract pos (pos+1),0⟩]):=by simp only [dN,h4,if_neg hcm];rfl
    have hok:=jJ hP hs0
    refine aA.callV (fun Ez Hz Az Sz K=>kK (aN src pos)) ?_
    conv=>whnf
    rw [decide_eq_false (by omega)]
    (try refine gS ?_);conv=>whnf
    repeat ((first|refine oM ?_|refine oL ?_|refine oR ?_);(try intro _);conv=>whnf)
    refine aA.callV (fun Ez Hz Az Sz K=>kC (aN src pos)) ?_
    conv=>whnf
    rw [decide_eq_false (by omega)]
    (try refine gS ?_);conv=>whnf
    repeat ((first|refine oM ?_|refine oL ?_|refine oR ?_);(try intro _);conv=>whnf)
    refine aA.callV (fun Ez Hz Az Sz K=>tI (aN src pos)) ?_
    conv=>whnf
    rw [decide_eq_true h4]
    (try refine gS ?_);conv=>whnf
    repeat ((first|refine oM ?_|refine oL ?_|refine oR ?_);(try intro _);conv=>whnf)
    refine And.intro (gG (by rw [List.length_map];omega)) ?_;conv=>whnf
    (try refine gS ?_);conv=>whnf
    refine aA.rowsEq (2) (oX l 3 pos (src.extract pos (pos+1)) 0) ?_;conv=>whnf
    refine aA.subR [(0,2)] (back ((pos+1,l++[⟨3,pos,src.extract pos (pos+1),0⟩])) (by exact (⟨by dsimp only;omega,hJ.2.trans (gC hP hs0)⟩)) (by (try dsimp only);omega)) sH sH
   have hcm:¬aDE src pos:=fun e=>hb (by have:=((zR src pos hP).1 e).2.1;omega)
   conv=>whnf
   repeat ((first|refine oM ?_|refine oL ?_|refine oR ?_);(try intro _);conv=>whnf)
   have hs0:dN src pos l=some (pos+1,l++[⟨3,pos,src.extract pos (pos+1),0⟩]):=by simp only [dN,h4,if_neg hcm];rfl
   have hok:=jJ hP hs0
   refine aA.callV (fun Ez Hz Az Sz K=>kK (aN src pos)) ?_
   conv=>whnf
   rw [decide_eq_false (by omega)]
   (try refine gS ?_);conv=>whnf
   repeat ((first|refine oM ?_|refine oL ?_|refine oR ?_);(try intro _);conv=>whnf)
   refine aA.callV (fun Ez Hz Az Sz K=>kC (aN src pos)) ?_
   conv=>whnf
   rw [decide_eq_false (by omega)]
   (try refine gS ?_);conv=>whnf
   repeat ((first|refine oM ?_|refine oL ?_|refine oR ?_);(try intro _);conv=>whnf)
   refine aA.callV (fun Ez Hz Az Sz K=>tI (aN src pos)) ?_
   conv=>whnf
   rw [decide_eq_true h4]
   (try refine gS ?_);conv=>whnf
   repeat ((first|refine oM ?_|refine oL ?_|refine oR ?_);(try intro _);conv=>whnf)
   refine And.intro (gG (by rw [List.length_map];omega)) ?_;conv=>whnf
   (try refine gS ?_);conv=>whnf
   refine aA.rowsEq (2) (oX l 3 pos (src.extract pos (pos+1)) 0) ?_;conv=>whnf
   refine aA.subR [(0,2)] (back ((pos+1,l++[⟨3,pos,src.extract pos (pos+1),0⟩])) (by exact (⟨by dsimp only;omega,hJ.2.trans (gC hP hs0)⟩)) (by (try dsimp only);omega)) sH sH
  have ha':aN src pos≠47:=fun e=>ha (by exact_mod_cast e)
  have hcm:¬aDE src pos:=fun e=>ha' ((zR src pos hP).1 e).1
  conv=>whnf
  repeat ((first|refine oM ?_|refine oL ?_|refine oR ?_);(try intro _);conv=>whnf)
  by_cases h2:cls (aN src pos)=2
  ·refine aA.callV (fun Ez Hz Az Sz K=>kK (aN src pos)) ?_
   conv=>whnf
   rw [decide_eq_true h2]
   (try refine gS ?_);conv=>whnf
   refine aA.meet (fun (e:Nat)=>[(7,.v (.int .i64 pos)),(6,.v (.int .i64 e)),(5,.buf 0),(0,.v (.string src))]) (fun (e:Nat)=>[aZ l 0]) 1 (fun (e:Nat)=>e=nV src pos) ?_ (fun meet=>?_)
   ·rintro e he
    have g1:pos<e:=he▸xH hP (by simp [fX,h2])
    have g2:e≤src.size:=he▸tP _ _ _ (by omega)
    have hsz:=aDM src (lo:=pos) g2
    have hname:uJ (src.extract pos e) ↔ ¬32<e - pos:=by
     constructor
     ·intro h;have:=h.1;omega
     intro h
     refine ⟨by omega,?_,fun i hi=>?_⟩
     ·rw [qJ src g2 (by omega)];exact h2
     rw [qJ src g2 (by omega)]
     exact aKF src (fX 2 3 95) pos (pos+i) (by omega) (by rw [show dR src (fX 2 3 95) pos=e from he.symm];omega)
    (try refine gS ?_);conv=>whnf
    repeat ((first|refine oM ?_|refine oL ?_|refine oR ?_);(try intro _);conv=>whnf)
    by_cases hb:32<e - pos
    ·refine aA.callV (fun Ez Hz Az Sz K=>aAE (src.extract pos e)) ?_
     conv=>whnf
     rw [decide_eq_false (fun h=>hname.1 h hb)]
     (try refine gS ?_);conv=>whnf
     have hs0:dN src pos l=none:=by simp [dN,h2,←he,hb]
     rw [hJ.2,oJ hP hs0] at ho
     subst ho
     try refine aA.retU ?_
     exact aE.ret tab Tryz.func25 rfl (eN () trivial)
    refine aA.callV (fun Ez Hz Az Sz K=>aAE (src.extract pos e)) ?_
    conv=>whnf
    rw [decide_eq_true (hname.2 hb)]
    (try refine gS ?_);conv=>whnf
    repeat ((first|refine oM ?_|refine oL ?_|refine oR ?_);(try intro _);conv=>whnf)
    have hs0:dN src pos l=some (e,l++[⟨1,pos,src.extract pos e,0⟩]):=by simp [dN,h2,←he,hb]
    have hok:=jJ hP hs0
    refine And.intro (gG (by rw [List.length_map];omega)) ?_;conv=>whnf
    (try refine gS ?_);conv=>whnf
    refine aA.rowsEq (2) (oX l 1 pos (src.extract pos e) 0) ?_;conv=>whnf
    refine aA.subR [(0,2)] (back ((e,l++[⟨1,pos,src.extract pos e,0⟩])) (by exact (⟨by dsimp only;omega,hJ.2.trans (gC hP hs0)⟩)) (by (try dsimp only);omega)) sH sH
   refine aA.subR [] (aA.loop (fun (i:Nat)=>[(7,.v (.int .i64 pos)),(6,.v (.int .i64 i)),(5,.buf 0),(0,.v (.string src))]) (fun (i:Nat)=>[aZ l 0]) 1 (fun (i:Nat)=>(pos≤i∧i≤src.size)∧nV src pos=dR src nmC i) (fun (i:Nat)=>src.size - i) ?round10 (pos) ?J010) sH sH
   case J010=>exact (⟨by omega,rfl⟩)
   rintro i hJ back
   conv=>whnf
   refine gS ?_;conv=>whnf
   refine ⟨fun hi=>?_,fun hi=>?_⟩<;>conv=>whnf
   ·conv=>whnf
    repeat ((first|refine oM ?_|refine oL ?_|refine oR ?_);(try intro _);conv=>whnf)
    by_cases hx:nmC (aN src i)=true
    ·refine aA.callV (fun Ez Hz Az Sz K=>zW (aN src i)) ?_
     conv=>whnf
     rw [hx]
     (try refine gS ?_);conv=>whnf
     repeat ((first|refine oM ?_|refine oL ?_|refine oR ?_);(try intro _);conv=>whnf)
     have hn:nV src pos=dR src nmC (i+1):=by
      rw [hJ.2]
      conv=>lhs;unfold dR
      rw [dif_pos (by omega),if_pos hx]
     refine aA.subR [] (back (i+1) (by exact (⟨by omega,hn⟩)) (by (try dsimp only);omega)) sH sH
    refine aA.callV (fun Ez Hz Az Sz K=>zW (aN src i)) ?_
    conv=>whnf
    rw [Bool.eq_false_iff.2 hx]
    (try refine gS ?_);conv=>whnf
    have hn:nV src pos=i:=by
     rw [hJ.2]
     unfold dR
     rw [dif_pos (by omega),if_neg hx]
    refine aA.subR [] (meet (i) (by exact (hn.symm))) sH sH
   conv=>whnf
   have hn:nV src pos=i:=by
    rw [hJ.2]
    unfold dR
    rw [dif_neg (by omega)]
   refine aA.subR [] (meet (i) (by exact (hn.symm))) sH sH
  refine aA.callV (fun Ez Hz Az Sz K=>kK (aN src pos)) ?_
  conv=>whnf
  rw [decide_eq_false h2]
  (try refine gS ?_);conv=>whnf
  repeat ((first|refine oM ?_|refine oL ?_|refine oR ?_);(try intro _);conv=>whnf)
  by_cases h3:cls (aN src pos)=3
  ·refine aA.callV (fun Ez Hz Az Sz K=>kC (aN src pos)) ?_
   conv=>whnf
   rw [decide_eq_true h3]
   (try refine gS ?_);conv=>whnf
   refine aA.meet (fun (e:Nat)=>[(7,.v (.int .i64 pos)),(6,.v (.int .i64 e)),(5,.buf 0),(0,.v (.string src))]) (fun (e:Nat)=>[aZ l 0]) 1 (fun (e:Nat)=>e=tS src pos) ?_ (fun meet=>?_)
   ·rintro e he
    have g1:pos<e:=he▸xH hP (by simp [fX,h3])
    have g2:e≤src.size:=he▸tP _ _ _ (by omega)
    have hsz:=aDM src (lo:=pos) g2
    have hdg:∀i,i<(src.extract pos e).size→48≤aN (src.extract pos e) i∧aN (src.extract pos e) i≤57:=fun i hi=>by
     rw [qJ src g2 (by omega)]
     exact aPK (aKF src (fX 3 3 48) pos (pos+i) (by omega) (by rw [show dR src (fX 3 3 48) pos=e from he.symm];omega))
    have hnl:qM (bs (src.extract pos e)) 0=tH src e pos 0:=by rw [aRC src e g2,jG]
    have hb0:aN (src.extract pos e) 0=aN src pos:=qJ src g2 (by omega)
    have hst:dN src pos l=if 1<e - pos∧aN src pos=48 then none else match tH src e pos 0 with|none=>none|some n=>some (e,l++[⟨2,pos,⟨#[]⟩,n⟩]):=by simp only [dN,h3,←he];rfl
    cases hz:tH src e pos 0 with
    |none=>
     have hs0:dN src pos l=none:=by rw [hst,hz];simp
     rw [hJ.2,oJ hP hs0] at ho
     subst ho
     (try refine gS ?_);conv=>whnf
     repeat ((first|refine oM ?_|refine oL ?_|refine oR ?_);(try intro _);conv=>whnf)
     refine aA.callV (fun Ez Hz Az Sz K=>zK (src.extract pos e) (by omega) hdg) ?_
     conv=>whnf
     rw [hnl,hz]
     try dsimp only
     (try refine gS ?_);conv=>whnf
     try refine aA.retU ?_
     exact aE.ret tab Tryz.func25 rfl (eN () trivial)
    |some n=>
     by_cases hb:1<e - pos∧aN src pos=48
     ·have hs0:dN src pos l=none:=by rw [hst,if_pos hb]
      rw [hJ.2,oJ hP hs0] at ho
      subst ho
      (try refine gS ?_);conv=>whnf
      repeat ((first|refine oM ?_|refine oL ?_|refine oR ?_);(try intro _);conv=>whnf)
      refine aA.callV (fun Ez Hz Az Sz K=>zK (src.extract pos e) (by omega) hdg) ?_
      conv=>whnf
      rw [hnl,hz,hb0,decide_eq_false (by omega:¬((src.extract pos e).size=1∨aN src pos≠48))]
      try dsimp only
      (try refine gS ?_);conv=>whnf
      try refine aA.retU ?_
      exact aE.ret tab Tryz.func25 rfl (eN () trivial)
     have hs0:dN src pos l=some (e,l++[⟨2,pos,⟨#[]⟩,n⟩]):=by rw [hst,if_neg hb,hz]
     have hok:=jJ hP hs0
     (try refine gS ?_);conv=>whnf
     repeat ((first|refine oM ?_|refine oL ?_|refine oR ?_);(try intro _);conv=>whnf)
     refine aA.callV (fun Ez Hz Az Sz K=>zK (src.extract pos e) (by omega) hdg) ?_
     conv=>whnf
     rw [hnl,hz,hb0,decide_eq_true (by omega:((src.extract pos e).size=1∨aN src pos≠48))]
     try dsimp only
     (try refine gS ?_);conv=>whnf
     refine And.intro (gG (by rw [List.length_map];omega)) ?_;conv=>whnf
     (try refine gS ?_);conv=>whnf
     refine aA.rowsEq (2) (oX l 2 pos ⟨#[]⟩ n) ?_;conv=>whnf
     refine aA.subR [(0,2)] (back ((e,l++[⟨2,pos,⟨#[]⟩,n⟩])) (by exact (⟨by dsimp only;omega,hJ.2.trans (gC hP hs0)⟩)) (by (try dsimp only);omega)) sH sH
   refine aA.subR [] (aA.loop (fun (i:Nat)=>[(7,.v (.int .i64 pos)),(6,.v (.int .i64 i)),(5,.buf 0),(0,.v (.string src))]) (fun (i:Nat)=>[aZ l 0]) 1 (fun (i:Nat)=>(pos≤i∧i≤src.size)∧tS src pos=dR src dgC i) (fun (i:Nat)=>src.size - i) ?round15 (pos) ?J015) sH sH
   case J015=>exact (⟨by omega,rfl⟩)
   rintro i hJ back
   conv=>whnf
   refine gS ?_;conv=>whnf
   refine ⟨fun hi=>?_,fun hi=>?_⟩<;>conv=>whnf
   ·conv=>whnf
    repeat ((first|refine oM ?_|refine oL ?_|refine oR ?_);(try intro _);conv=>whnf)
    by_cases hx:cls (aN src i)=3
    ·refine aA.callV (fun Ez Hz Az Sz K=>kC (aN src i)) ?_
     conv=>whnf
     rw [decide_eq_true hx]
     (try refine gS ?_);conv=>whnf
     repeat ((first|refine oM ?_|refine oL ?_|refine oR ?_);(try intro _);conv=>whnf)
     have hn:tS src pos=dR src dgC (i+1):=by
      rw [hJ.2]
      conv=>lhs;unfold dR
      rw [dif_pos (by omega),if_pos ((aKG _).2 hx)]
     refine aA.subR [] (back (i+1) (by exact (⟨by omega,hn⟩)) (by (try dsimp only);omega)) sH sH
    refine aA.callV (fun Ez Hz Az Sz K=>kC (aN src i)) ?_
    conv=>whnf
    rw [decide_eq_false hx]
    (try refine gS ?_);conv=>whnf
    have hn:tS src pos=i:=by
     rw [hJ.2]
     unfold dR
     rw [dif_pos (by omega),if_neg (fun e=>hx ((aKG _).1 e))]
    refine aA.subR [] (meet (i) (by exact (hn.symm))) sH sH
   conv=>whnf
   have hn:tS src pos=i:=by
    rw [hJ.2]
    unfold dR
    rw [dif_neg (by omega)]
   refine aA.subR [] (meet (i) (by exact (hn.symm))) sH sH
  refine aA.callV (fun Ez Hz Az Sz K=>kC (aN src pos)) ?_
  conv=>whnf
  rw [decide_eq_false h3]
  (try refine gS ?_);conv=>whnf
  repeat ((first|refine oM ?_|refine oL ?_|refine oR ?_);(try intro _);conv=>whnf)
  by_cases h4:cls (aN src pos)=4
  ·have hs0:dN src pos l=some (pos+1,l++[⟨3,pos,src.extract pos (pos+1),0⟩]):=by simp only [dN,h4,if_neg hcm];rfl
   have hok:=jJ hP hs0
   refine aA.callV (fun Ez Hz Az Sz K=>tI (aN src pos)) ?_
   conv=>whnf
   rw [decide_eq_true h4]
   (try refine gS ?_);conv=>whnf
   repeat ((first|refine oM ?_|refine oL ?_|refine oR ?_);(try intro _);conv=>whnf)
   refine And.intro (gG (by rw [List.length_map];omega)) ?_;conv=>whnf
   (try refine gS ?_);conv=>whnf
   refine aA.rowsEq (2) (oX l 3 pos (src.extract pos (pos+1)) 0) ?_;conv=>whnf
   refine aA.subR [(0,2)] (back ((pos+1,l++[⟨3,pos,src.extract pos (pos+1),0⟩])) (by exact (⟨by dsimp only;omega,hJ.2.trans (gC hP hs0)⟩)) (by (try dsimp only);omega)) sH sH
  have h0:cls (aN src pos)=0:=by
   have:=aCD (aN src pos)
   omega
  have hs0:dN src pos l=none:=by simp [dN,h0]
  rw [hJ.2,oJ hP hs0] at ho
  subst ho
  refine aA.callV (fun Ez Hz Az Sz K=>tI (aN src pos)) ?_
  conv=>whnf
  rw [decide_eq_false h4]
  try dsimp only
  (try refine gS ?_);conv=>whnf
  try refine aA.retU ?_
  exact aE.ret tab Tryz.func25 rfl (eN () trivial)
 conv=>whnf
 have hend:vV src pos l=.inl l:=by
  unfold vV
  rw [dif_neg (by omega)]
 rw [hJ.2,hend] at ho
 subst ho
 try refine aA.retU ?_
 exact aE.ret tab Tryz.func25 rfl (eN () trivial)
end Go.Proofs.YtgbeechjghajcaaGreatDoor

namespace Go.Proofs.YtgbeechjghajcaaGreatDoor
open Go Go.Shelf Go.Proofs
def layR:Ren:=⟨fun x=>match x with|129=>180|143=>152|144=>115|156=>57|165=>117|166=>118|169=>119|171=>56|217=>175|219=>167|224=>177|225=>176|240=>154|241=>155|243=>116|246=>153|266=>184|267=>178|276=>172|277=>173|283=>168|284=>169|285=>170|286=>171|314=>185|317=>179|318=>181|319=>182|320=>183|337=>186|338=>187|n=>n,fun x=>match x with|0=>0|2=>2|3=>3|4=>4|5=>5|9=>9|20=>20|31=>25|37=>177|46=>256|51=>259|53=>244|70=>176|72=>179|75=>182|76=>183|80=>127|127=>227|146=>263|164=>249|171=>243|173=>247|212=>258|213=>260|232=>266|233=>267|n=>n,fun x=>match x with|1=>0|17=>1|18=>2|19=>3|n=>n⟩
theorem aSB:Lays.n156 Tryz.prog layR:={
 mixed:=by kernel_rfl
 f156:=by kernel_rfl
 f165:=by kernel_rfl
 f166:=by kernel_rfl
 f169:=by kernel_rfl
 f240:=by kernel_rfl
 f241:=by kernel_rfl
 f276:=by kernel_rfl
 f277:=by kernel_rfl
 t0:=by kernel_rfl
 a0:=fun _=>by kernel_rfl
 z0:=fun _=>by kernel_rfl
 v0:=fun _=>by kernel_rfl
 t3:=by kernel_rfl
 a3:=fun _=>by kernel_rfl
 z3:=fun _=>by kernel_rfl
 v3:=fun _=>by kernel_rfl
 t4:=by kernel_rfl
 a4:=fun _=>by kernel_rfl
 z4:=fun _=>by kernel_rfl
 v4:=fun _=>by kernel_rfl
 t9:=by kernel_rfl
 a9:=fun _=>by kernel_rfl
 z9:=fun _=>by kernel_rfl
 v9:=fun _=>by kernel_rfl
 t20:=by kernel_rfl
 a20:=fun _=>by kernel_rfl
 z20:=fun _=>by kernel_rfl
 v20:=fun _=>by kernel_rfl
 t31:=by kernel_rfl
 a31:=fun _=>by kernel_rfl
 z31:=fun _=>by kernel_rfl
 v31:=fun _=>by kernel_rfl
 t37:=by kernel_rfl
 a37:=fun _=>by kernel_rfl
 z37:=fun _=>by kernel_rfl
 v37:=fun _=>by kernel_rfl
 t70:=by kernel_rfl
 a70:=fun _=>by kernel_rfl
 z70:=fun _=>by kernel_rfl
 v70:=fun _=>by kernel_rfl
 t72:=by kernel_rfl
 a72:=fun _=>by kernel_rfl
 z72:=fun _=>by kernel_rfl
 v72:=fun _=>by kernel_rfl
 t75:=by kernel_rfl
 a75:=fun _=>by kernel_rfl
 z75:=fun _=>by kernel_rfl
 v75:=fun _=>by kernel_rfl
 t76:=by kernel_rfl
 a76:=fun _=>by kernel_rfl
 z76:=fun _=>by kernel_rfl
 v76:=fun _=>by kernel_rfl
 t127:=by kernel_rfl
 a127:=fun _=>by kernel_rfl
 z127:=fun _=>by kernel_rfl
 v127:=fun _=>by kernel_rfl
 t164:=by kernel_rfl
 a164:=fun _=>by kernel_rfl
 z164:=fun _=>by kernel_rfl
 v164:=fun _=>by kernel_rfl
}
theorem aEC:Builder.Extra Tryz.prog layR:={
 sizeBuilder:=by kernel_rfl
 liesBuilder:=by kernel_rfl
 t5:=by kernel_rfl
 a5:=fun _=>by kernel_rfl
 z5:=fun _=>by kernel_rfl
 v5:=fun _=>by kernel_rfl
 infoByte:=by kernel_rfl
 cellsByte:=by kernel_rfl
 sizeByte:=by kernel_rfl
 neB5:=by decide
}
theorem layItoa:LaysM.n171 Tryz.prog layR:={
 mixed:=by kernel_rfl
 f129:=by kernel_rfl
 f171:=by kernel_rfl
 f243:=by kernel_rfl
 f246:=by kernel_rfl
 f283:=by kernel_rfl
 f284:=by kernel_rfl
 f285:=by kernel_rfl
 f286:=by kernel_rfl
 f317:=by kernel_rfl
 f318:=by kernel_rfl
 f319:=by kernel_rfl
 f320:=by kernel_rfl
 f337:=by kernel_rfl
 f338:=by kernel_rfl
 t0:=by kernel_rfl
 a0:=fun _=>by kernel_rfl
 z0:=fun _=>by kernel_rfl
 v0:=fun _=>by kernel_rfl
 t2:=by kernel_rfl
 a2:=fun _=>by kernel_rfl
 z2:=fun _=>by kernel_rfl
 v2:=fun _=>by kernel_rfl
 t3:=by kernel_rfl
 a3:=fun _=>by kernel_rfl
 z3:=fun _=>by kernel_rfl
 v3:=fun _=>by kernel_rfl
 t4:=by kernel_rfl
 a4:=fun _=>by kernel_rfl
 z4:=fun _=>by kernel_rfl
 v4:=fun _=>by kernel_rfl
 t5:=by kernel_rfl
 a5:=fun _=>by kernel_rfl
 z5:=fun _=>by kernel_rfl
 v5:=fun _=>by kernel_rfl
 t9:=by kernel_rfl
 a9:=fun _=>by kernel_rfl
 z9:=fun _=>by kernel_rfl
 v9:=fun _=>by kernel_rfl
 t20:=by kernel_rfl
 a20:=fun _=>by kernel_rfl
 z20:=fun _=>by kernel_rfl
 v20:=fun _=>by kernel_rfl
 t37:=by kernel_rfl
 a37:=fun _=>by kernel_rfl
 z37:=fun _=>by kernel_rfl
 v37:=fun _=>by kernel_rfl
 t46:=by kernel_rfl
 a46:=fun _=>by kernel_rfl
 z46:=fun _=>by kernel_rfl
 v46:=fun _=>by kernel_rfl
 t51:=by kernel_rfl
 a51:=fun _=>by kernel_rfl
 z51:=fun _=>by kernel_rfl
 v51:=fun _=>by kernel_rfl
 t53:=by kernel_rfl
 a53:=fun _=>by kernel_rfl
 z53:=fun _=>by kernel_rfl
 v53:=fun _=>by kernel_rfl
 t171:=by kernel_rfl
 a171:=fun _=>by kernel_rfl
 z171:=fun _=>by kernel_rfl
 v171:=fun _=>by kernel_rfl
 t173:=by kernel_rfl
 a173:=fun _=>by kernel_rfl
 z173:=fun _=>by kernel_rfl
 v173:=fun _=>by kernel_rfl
 t212:=by kernel_rfl
 a212:=fun _=>by kernel_rfl
 z212:=fun _=>by kernel_rfl
 v212:=fun _=>by kernel_rfl
 t213:=by kernel_rfl
 a213:=fun _=>by kernel_rfl
 z213:=fun _=>by kernel_rfl
 t232:=by kernel_rfl
 a232:=fun _=>by kernel_rfl
 z232:=fun _=>by kernel_rfl
 v232:=fun _=>by kernel_rfl
 t233:=by kernel_rfl
 a233:=fun _=>by kernel_rfl
 z233:=fun _=>by kernel_rfl
 v233:=fun _=>by kernel_rfl
 g17:=by kernel_rfl
 g18:=by kernel_rfl
 g19:=by kernel_rfl
 i0:=by kernel_rfl
 i2:=by kernel_rfl
 i3:=by kernel_rfl
 i4:=by kernel_rfl
 i5:=by kernel_rfl
 i9:=by kernel_rfl
 i20:=by kernel_rfl
 i37:=by kernel_rfl
 i46:=by kernel_rfl
 i51:=by kernel_rfl
 i53:=by kernel_rfl
 i171:=by kernel_rfl
 i173:=by kernel_rfl
 i212:=by kernel_rfl
 i232:=by kernel_rfl
 i233:=by kernel_rfl
 m17:=by kernel_rfl
 m18:=by kernel_rfl
 m19:=by kernel_rfl
}
theorem aOD:Lays.n144 Tryz.prog layR:={
 mixed:=by kernel_rfl
 f143:=by kernel_rfl
 f144:=by kernel_rfl
 f217:=by kernel_rfl
 f219:=by kernel_rfl
 f224:=by kernel_rfl
 f225:=by kernel_rfl
 f266:=by kernel_rfl
 f267:=by kernel_rfl
 f314:=by kernel_rfl
 t3:=by kernel_rfl
 a3:=fun _=>by kernel_rfl
 z3:=fun _=>by kernel_rfl
 v3:=fun _=>by kernel_rfl
 t4:=by kernel_rfl
 a4:=fun _=>by kernel_rfl
 z4:=fun _=>by kernel_rfl
 v4:=fun _=>by kernel_rfl
 t5:=by kernel_rfl
 a5:=fun _=>by kernel_rfl
 z5:=fun _=>by kernel_rfl
 v5:=fun _=>by kernel_rfl
 t9:=by kernel_rfl
 a9:=fun _=>by kernel_rfl
 z9:=fun _=>by kernel_rfl
 v9:=fun _=>by kernel_rfl
 t46:=by kernel_rfl
 a46:=fun _=>by kernel_rfl
 z46:=fun _=>by kernel_rfl
 v46:=fun _=>by kernel_rfl
 t51:=by kernel_rfl
 a51:=fun _=>by kernel_rfl
 z51:=fun _=>by kernel_rfl
 v51:=fun _=>by kernel_rfl
 t146:=by kernel_rfl
 a146:=fun _=>by kernel_rfl
 z146:=fun _=>by kernel_rfl
 v146:=fun _=>by kernel_rfl
 g1:=by kernel_rfl
}
end Go.Proofs.YtgbeechjghajcaaGreatDoor

namespace Go.Proofs.YtgbeechjghajcaaGreatDoor
open Go Go.Fw Go.RowKit
theorem xQ {P:Program} {f:FuncId} {args:Array Value} {h:Array Obj} {v:Value} (he:Fw.Enters P f) (H:∀w:World,w.heap=h→Calls P f args w fun e w'=>e=.returned v∧Below w.heap.size w w'):
  FnV P f args h fun r h'=>r=v∧bW h.size h h':=
 ⟨he,fun w hw=>(H w hw).mono fun e w' ⟨h1,h2⟩=>⟨⟨h2.tape,h2.os,h2.output⟩,v,h1,rfl,by rw [←hw];exact ⟨h2.size,h2.block⟩⟩⟩
def uC (h:Array Obj):Prop:=(match h[(1:Nat)]? with|some (Obj.cells cs _ _)=>some cs|_=>none)=some (Lib.pow10Tab.map fun z=>Value.int .u64 z).toArray
theorem uC.lt {h:Array Obj} (H:uC h):1<h.size:=by
 unfold uC at H
 split at H
 ·rename_i hx
  exact (Array.getElem?_eq_some_iff.1 hx).1
 cases H
theorem uC.keeps {h h':Array Obj} (H:uC h) (k:bW h.size h h'):uC h':=by
 have:=k.same _ H.lt
 unfold uC at H ⊢
 rw [this];exact H
theorem gPow:Tryz.prog.globalNamed "internal/strconv.uint64pow10" = some 1:=by kernel_rfl
theorem uC.tab {w:World} (H:uC w.heap):Lib.TabIs Tryz.prog w "internal/strconv.uint64pow10" .u64 Lib.pow10Tab:=by
 unfold Lib.TabIs World.var?
 rw [gPow]
 exact H
theorem Itoa_fn {h:Array Obj} (n:Int) (h0:0≤n) (h1:n≤9223372036854775807) (hT:uC h):FnV Tryz.prog 56 #[.int .i64 n] h fun r h'=>r=.string ⟨(Lib.itoa n).toArray⟩∧bW h.size h h':=
 xQ ⟨_,_,Tryz.func56,by kernel_rfl,rfl⟩ fun w hw=>(Any.strconv_Itoa layItoa n (by omega) h1 w (uC.tab (by rw [hw];exact hT))).mono fun e w' ⟨e1,k,os,e2⟩=>⟨e1,by
  subst e2
  refine ⟨rfl,rfl,rfl,?_,fun i hi=>?_⟩
  ·show w.heap.size≤(w.heap++os).size
   simp
  show (w.heap++os)[i]? = _
  rw [Array.getElem?_append_left hi]⟩
theorem aCS {h:Array Obj} (s:ByteArray) (c:UInt8):FnV Tryz.prog 115 #[.string s,.string ⟨#[c]⟩] h fun r h'=>r=.bool (decide (0≤Lib.indexByte s.data.toList c))∧bW h.size h h':=
 xQ ⟨_,_,Tryz.func115,by kernel_rfl,rfl⟩ fun w hw=>(Any.strings_Contains_one aOD s c w).mono fun e w' ⟨e1,e2⟩=>⟨e1,e2▸Below.refl _ _⟩
theorem Join_fn {h:Array Obj} {e:TypeId} {v:Value} (xs:List ByteArray) (sep:ByteArray) (hv:Own 0 h e 1 v (xs.map fun x=>[Value.string x]).length (xs.map fun x=>[Value.string x]).flatten) (hN:xs.length≤65536) (hl:(Lib.join (xs.map (·.data.toList)) sep.data.toList).length≤140737488355328):
  FnV Tryz.prog 57 #[v,.string sep] h fun r h'=>r=.string ⟨(Lib.join (xs.map (·.data.toList)) sep.data.toList).toArray⟩∧bW h.size h h':=by
 have hfl:(xs.map fun x=>[Value.string x]).flatten=xs.map Value.string:=by
  clear hv hN hl
  induction xs with
  |nil=>rfl
  |cons x xs ih=>simp [ih]
 rw [hfl,List.length_map] at hv
 obtain ⟨_,⟨rfl,h3⟩|⟨g,cap,cur,rfl,_,hat,hc,_,_,ht⟩⟩:=hv
 ·refine xQ ⟨_,_,Tryz.func57,by kernel_rfl,rfl⟩ fun w hw=>?_
  have:xs=[]:=List.eq_nil_of_length_eq_zero h3
  subst this
  exact (Any.strings_Join_none aSB aEC none 0 sep w).mono fun e w' ⟨e1,e2⟩=>⟨e1,e2▸Below.refl _ _⟩
 refine xQ ⟨_,_,Tryz.func57,by kernel_rfl,rfl⟩ fun w hw=>?_
 refine Any.strings_Join aSB aEC g 0 cap xs sep w (fun j x hx=>?_) (by rw [hw];exact hat.lt) (by omega) hc hl
 refine kT ?_
 rw [hw,Nat.zero_add,hat.cell]
 have h1:=congrArg (fun l=>l[j]?) ht
 have hj:=(List.getElem?_eq_some_iff.1 hx).1
 simp only [Nat.mul_one,List.getElem?_map,hx,Option.map_some,List.getElem?_take,if_pos hj,Array.getElem?_toList] at h1
 exact h1
end Go.Proofs.YtgbeechjghajcaaGreatDoor

namespace Go.Proofs.YtgbeechjghajcaaGreatDoor
open Go Go.Fw
set_option maxRecDepth 100000
set_option maxHeartbeats 99999999
theorem aPE {c:Nat} (hc:c<256):nth clsS (0+((c:Int)).toNat*1)=some (.v (.int .i64 (cls c))):=by
 have:=aLT hc []
 rw [List.append_nil] at this
 rw [show 0+((c:Int)).toNat*1=c by simp]
 exact this
theorem zO {h:Array Obj} (s:ByteArray):FnV Tryz.prog 114 #[.string s] h fun r h'=>r=.bool (decide (uJ s))∧bW h.size h h':=by
 refine Fn.ofS (args:=[.string s]) Tryz.func114 (by kernel_rfl) rfl Tryz.ntmps114 rfl fun w0 cs=>?_
 conv=>whnf
 refine gS ?_;conv=>whnf
 refine ⟨fun h1=>?_,fun h1=>?_⟩<;>conv=>whnf
 ·conv=>whnf
  refine aA.retU (aE.ret tab Tryz.func114 rfl fun Ez Hz Az Sz K=>⟨_,rfl,?_,K.keeps⟩)
  exact congrArg Value.bool (decide_eq_false fun e=>by
   have:=e.1
   have hz:s.size=0:=by rw [h1];rfl
   omega).symm
 conv=>whnf
 have hz:s.size≠0:=fun e=>h1 (by
  rw [←kG s]
  rw [List.eq_nil_of_length_eq_zero (l:=bs s) (by rw [kY];exact e)])
 refine ⟨fun h2=>?_,fun h2=>?_⟩<;>conv=>whnf
 ·conv=>whnf
  refine aA.retU (aE.ret tab Tryz.func114 rfl fun Ez Hz Az Sz K=>⟨_,rfl,?_,K.keeps⟩)
  exact congrArg Value.bool (decide_eq_false fun e=>by have:=e.1;omega).symm
 conv=>whnf
 have hb0:aN s (Int.toNat 0)<256:=oW _ _
 refine aA.callV (fun Ez Hz Az Sz K=>aEJ) ?_
 conv=>whnf
 (try refine gS ?_);conv=>whnf
 repeat ((first|refine oM ?_|refine oL ?_|refine oR ?_);(try intro _);conv=>whnf)
 rw [wJ (aPE (oW s 0)) (by rfl) (by rfl) (by rfl)]
 conv=>whnf
 refine ⟨fun h3=>?_,fun h3=>?_⟩<;>conv=>whnf
 ·conv=>whnf
  refine aA.subR [] (aA.loop (fun (i:Nat)=>[(20,.v (.int .i64 i)),(19,.v (.int .i64 s.size)),(3,.ptr 0 0),(0,.v (.string s))]) (fun (i:Nat)=>[(0,.cells 107 clsS)]) 1 (fun (i:Nat)=>i≤s.size ∧ ∀j,j<i→nmC (aN s j)=true) (fun (i:Nat)=>s.size - i) ?round1 (0) ?J01) sH sH
  case J01=>exact (⟨Nat.zero_le _,fun _ h=>absurd h (Nat.not_lt_zero _)⟩)
  rintro i hJ back
  try dsimp only at hJ back
  conv=>whnf
  try dsimp only
  refine gS ?_;conv=>whnf
  refine ⟨fun hk=>?_,fun hk=>?_⟩<;>conv=>whnf
  ·have hbi:aN s ((i:Int)).toNat<256:=oW _ _
   conv=>whnf
   repeat ((first|refine oM ?_|refine oL ?_|refine oR ?_);(try intro _);conv=>whnf)
   rw [wJ (aPE (oW s i)) (by rfl) (by rfl) (by rfl)]
   conv=>whnf
   refine ⟨fun h4=>?_,fun h4=>?_⟩<;>conv=>whnf
   ·conv=>whnf
    repeat ((first|refine oM ?_|refine oL ?_|refine oR ?_);(try intro _);conv=>whnf)
    refine aA.subR [] (back (i+1) (by exact (⟨by omega,fun j hj=>(Nat.lt_succ_iff_lt_or_eq.1 hj).elim (hJ.2 j) (fun e=>e▸(rR _).2 (.inl h4))⟩)) (by (try dsimp only);omega)) sH sH
   conv=>whnf
   repeat ((first|refine oM ?_|refine oL ?_|refine oR ?_);(try intro _);conv=>whnf)
   rw [wJ (aPE (oW s i)) (by rfl) (by rfl) (by rfl)]
   conv=>whnf
   refine ⟨fun h5=>?_,fun h5=>?_⟩<;>conv=>whnf
   ·conv=>whnf
    repeat ((first|refine oM ?_|refine oL ?_|refine oR ?_);(try intro _);conv=>whnf)
    refine aA.subR [] (back (i+1) (by exact (⟨by omega,fun j hj=>(Nat.lt_succ_iff_lt_or_eq.1 hj).elim (hJ.2 j) (fun e=>e▸(rR _).2 (.inr (.inl h5)))⟩)) (by (try dsimp only);omega)) sH sH
   conv=>whnf
   repeat ((first|refine oM ?_|refine oL ?_|refine oR ?_);(try intro _);conv=>whnf)
   refine ⟨fun h6=>?_,fun h6=>?_⟩<;>conv=>whnf
   ·conv=>whnf
    repeat ((first|refine oM ?_|refine oL ?_|refine oR ?_);(try intro _);conv=>whnf)
    have h6:aN s i=95:=by exact_mod_cast h6
    refine aA.subR [] (back (i+1) (by exact (⟨by omega,fun j hj=>(Nat.lt_succ_iff_lt_or_eq.1 hj).elim (hJ.2 j) (fun e=>e▸(rR _).2 (.inr (.inr h6)))⟩)) (by (try dsimp only);omega)) sH sH
   conv=>whnf
   refine aA.retU (aE.ret tab Tryz.func114 rfl fun Ez Hz Az Sz K=>⟨_,rfl,?_,K.keeps⟩)
   refine congrArg Value.bool (decide_eq_false fun e=>?_).symm
   have h4:cls (aN s i)≠2:=h4
   have h5:cls (aN s i)≠3:=h5
   have h6:aN s i≠95:=fun e=>h6 (by exact_mod_cast e)
   have:=(rR _).1 (e.2.2 i (by omega))
   omega
  conv=>whnf
  refine aA.retU (aE.ret tab Tryz.func114 rfl fun Ez Hz Az Sz K=>⟨_,rfl,?_,K.keeps⟩)
  exact congrArg Value.bool (decide_eq_true (⟨by omega,h3,fun j hj=>hJ.2 j (by omega)⟩:uJ s)).symm
 conv=>whnf
 refine aA.retU (aE.ret tab Tryz.func114 rfl fun Ez Hz Az Sz K=>⟨_,rfl,?_,K.keeps⟩)
 exact congrArg Value.bool (decide_eq_false fun e=>h3 e.2.1).symm

abbrev eE (t:Tok):Prop:=(t.kind=1∧uJ t.text∧t.n=0)∨(t.kind=2∧t.text=⟨#[]⟩∧0≤t.n∧t.n≤1099511627776)∨(t.kind=3∧t.text.size=1∧cls (aN t.text 0)=4∧t.n=0)
def Tok.v (t:Tok):Value:=.agg #[.int .i64 t.kind,.int .i64 t.pos,.string t.text,.int .i64 t.n]
theorem aQM:∀n,n<256→decide (0≤Lib.indexByte (⟨#[123,125,40,41,44,59,61,35,47,60,33,45,46,58,43]⟩:ByteArray).data.toList (UInt8.ofNat n))=decide (cls n=4):=by decide
theorem aVA {s:ByteArray} (h:s.size=1):∃c:UInt8,s=⟨#[c]⟩∧aN s 0=c.toNat:=by
 obtain ⟨c,h1,h2⟩:=xC (s:=s) (i:=0) (by omega)
 refine ⟨c,?_,h2.symm⟩
 rw [List.drop_zero] at h1
 have:(bs s).drop (0+1)=[]:=List.drop_eq_nil_of_le (by rw [kY];omega)
 rw [this] at h1
 rw [←kG s,h1]
theorem aNO {h:Array Obj} (t:Tok):FnV Tryz.prog 55 #[t.v] h fun r h'=>r=.bool (decide (eE t))∧bW h.size h h':=by
 obtain ⟨k,p,s,n⟩:=t
 refine Fn.ofS (args:=[.agg #[.int .i64 k,.int .i64 p,.string s,.int .i64 n]]) Tryz.func55 (by kernel_rfl) rfl Tryz.ntmps55 rfl fun w0 cs=>?_
 conv=>whnf
 refine gS ?_;conv=>whnf
 refine ⟨fun h1=>?_,fun h1=>?_⟩<;>conv=>whnf
 ·subst h1
  conv=>whnf
  by_cases hn:uJ s
  ·refine aA.callV (fun Ez Hz Az Sz K=>zO s) ?_
   conv=>whnf
   rw [decide_eq_true hn]
   try dsimp only
   (try refine gS ?_);conv=>whnf
   refine aA.retU (aE.ret tab Tryz.func55 rfl fun Ez Hz Az Sz K=>⟨_,rfl,?_,K.keeps⟩)
   exact congrArg Value.bool (decide_eq_decide.2 ⟨fun e=>.inl ⟨rfl,hn,e⟩,fun e=>by rcases e with e|e|e<;>first|exact e.2.2|(have:=e.1;simp at this)⟩)
  refine aA.callV (fun Ez Hz Az Sz K=>zO s) ?_
  conv=>whnf
  rw [decide_eq_false hn]
  try dsimp only
  (try refine gS ?_);conv=>whnf
  refine aA.retU (aE.ret tab Tryz.func55 rfl fun Ez Hz Az Sz K=>⟨_,rfl,?_,K.keeps⟩)
  exact congrArg Value.bool (decide_eq_false (by simp [eE,hn])).symm
 conv=>whnf
 refine ⟨fun h2=>?_,fun h2=>?_⟩<;>conv=>whnf
 ·subst h2
  conv=>whnf
  refine ⟨fun h3=>?_,fun h3=>?_⟩<;>conv=>whnf
  ·conv=>whnf
   refine ⟨fun h4=>?_,fun h4=>?_⟩<;>conv=>whnf
   ·conv=>whnf
    refine aA.retU (aE.ret tab Tryz.func55 rfl fun Ez Hz Az Sz K=>⟨_,rfl,?_,K.keeps⟩)
    have h3:s=⟨#[]⟩:=h3
    exact congrArg Value.bool (decide_eq_decide.2 (by simp [eE,h3,h4]))
   conv=>whnf
   refine aA.retU (aE.ret tab Tryz.func55 rfl fun Ez Hz Az Sz K=>⟨_,rfl,?_,K.keeps⟩)
   exact congrArg Value.bool (decide_eq_false (by simp [eE];omega)).symm
  conv=>whnf
  refine aA.retU (aE.ret tab Tryz.func55 rfl fun Ez Hz Az Sz K=>⟨_,rfl,?_,K.keeps⟩)
  have h3:s≠⟨#[]⟩:=h3
  exact congrArg Value.bool (decide_eq_false (by simp [eE,h3])).symm
 conv=>whnf
 refine ⟨fun h3=>?_,fun h3=>?_⟩<;>conv=>whnf
 ·subst h3
  conv=>whnf
  refine ⟨fun h4=>?_,fun h4=>?_⟩<;>conv=>whnf
  ·have h4:s.size=1:=by omega
   obtain ⟨c,rfl,hc⟩:=aVA h4
   have hs:=aQM c.toNat (UInt8.toNat_lt c)
   rw [UInt8.ofNat_toNat] at hs
   by_cases h5:cls c.toNat=4
   ·conv=>whnf
    refine aA.callV (fun Ez Hz Az Sz K=>aCS _ c) ?_
    conv=>whnf
    rw [hs,decide_eq_true h5]
    try dsimp only
    (try refine gS ?_);conv=>whnf
    refine aA.retU (aE.ret tab Tryz.func55 rfl fun Ez Hz Az Sz K=>⟨_,rfl,?_,K.keeps⟩)
    exact congrArg Value.bool (decide_eq_decide.2 (by simp [eE,h4,hc,h5]))
   conv=>whnf
   refine aA.callV (fun Ez Hz Az Sz K=>aCS _ c) ?_
   conv=>whnf
   rw [hs,decide_eq_false h5]
   try dsimp only
   (try refine gS ?_);conv=>whnf
   refine aA.retU (aE.ret tab Tryz.func55 rfl fun Ez Hz Az Sz K=>⟨_,rfl,?_,K.keeps⟩)
   exact congrArg Value.bool (decide_eq_false (by simp [eE,hc,h5])).symm
  conv=>whnf
  refine aA.retU (aE.ret tab Tryz.func55 rfl fun Ez Hz Az Sz K=>⟨_,rfl,?_,K.keeps⟩)
  exact congrArg Value.bool (decide_eq_false (by simp [eE];omega)).symm
 conv=>whnf
 refine aA.retU (aE.ret tab Tryz.func55 rfl fun Ez Hz Az Sz K=>⟨_,rfl,?_,K.keeps⟩)
 exact congrArg Value.bool (decide_eq_false (by simp [eE,h1,h2,h3])).symm
theorem xU {h:Array Obj} (t:Tok):FnV Tryz.prog 97 #[t.v] h fun r h'=>r=.bool (decide (eE t))∧bW h.size h h':=by
 obtain ⟨k,p,s,n⟩:=t
 refine Fn.ofS (args:=[.agg #[.int .i64 k,.int .i64 p,.string s,.int .i64 n]]) Tryz.func97 (by kernel_rfl) rfl Tryz.ntmps97 rfl fun w0 cs=>?_
 conv=>whnf
 refine gS ?_;conv=>whnf
 refine ⟨fun h1=>?_,fun h1=>?_⟩<;>conv=>whnf
 ·subst h1
  conv=>whnf
  by_cases hn:uJ s
  ·refine aA.callV (fun Ez Hz Az Sz K=>aAE s) ?_
   conv=>whnf
   rw [decide_eq_true hn]
   try dsimp only
   (try refine gS ?_);conv=>whnf
   refine aA.retU (aE.ret tab Tryz.func97 rfl fun Ez Hz Az Sz K=>⟨_,rfl,?_,K.keeps⟩)
   exact congrArg Value.bool (decide_eq_decide.2 ⟨fun e=>.inl ⟨rfl,hn,e⟩,fun e=>by rcases e with e|e|e<;>first|exact e.2.2|(have:=e.1;simp at this)⟩)
  refine aA.callV (fun Ez Hz Az Sz K=>aAE s) ?_
  conv=>whnf
  rw [decide_eq_false hn]
  try dsimp only
  (try refine gS ?_);conv=>whnf
  refine aA.retU (aE.ret tab Tryz.func97 rfl fun Ez Hz Az Sz K=>⟨_,rfl,?_,K.keeps⟩)
  exact congrArg Value.bool (decide_eq_false (by simp [eE,hn])).symm
 conv=>whnf
 refine ⟨fun h2=>?_,fun h2=>?_⟩<;>conv=>whnf
 ·subst h2
  conv=>whnf
  refine ⟨fun h3=>?_,fun h3=>?_⟩<;>conv=>whnf
  ·conv=>whnf
   refine ⟨fun h4=>?_,fun h4=>?_⟩<;>conv=>whnf
   ·conv=>whnf
    refine aA.retU (aE.ret tab Tryz.func97 rfl fun Ez Hz Az Sz K=>⟨_,rfl,?_,K.keeps⟩)
    have h3:s=⟨#[]⟩:=h3
    exact congrArg Value.bool (decide_eq_decide.2 (by simp [eE,h3,h4]))
   conv=>whnf
   refine aA.retU (aE.ret tab Tryz.func97 rfl fun Ez Hz Az Sz K=>⟨_,rfl,?_,K.keeps⟩)
   exact congrArg Value.bool (decide_eq_false (by simp [eE];omega)).symm
  conv=>whnf
  refine aA.retU (aE.ret tab Tryz.func97 rfl fun Ez Hz Az Sz K=>⟨_,rfl,?_,K.keeps⟩)
  have h3:s≠⟨#[]⟩:=h3
  exact congrArg Value.bool (decide_eq_false (by simp [eE,h3])).symm
 conv=>whnf
 refine ⟨fun h3=>?_,fun h3=>?_⟩<;>conv=>whnf
 ·subst h3
  conv=>whnf
  refine ⟨fun h4=>?_,fun h4=>?_⟩<;>conv=>whnf
  ·have h4:s.size=1:=by omega
   by_cases h5:cls (aN s 0)=4
   ·conv=>whnf
    repeat ((first|refine oM ?_|refine oL ?_|refine oR ?_);(try intro _);conv=>whnf)
    refine aA.callV (fun Ez Hz Az Sz K=>tI (aN s 0)) ?_
    conv=>whnf
    rw [decide_eq_true h5]
    try dsimp only
    (try refine gS ?_);conv=>whnf
    refine aA.retU (aE.ret tab Tryz.func97 rfl fun Ez Hz Az Sz K=>⟨_,rfl,?_,K.keeps⟩)
    exact congrArg Value.bool (decide_eq_decide.2 (by simp [eE,h4,h5]))
   conv=>whnf
   repeat ((first|refine oM ?_|refine oL ?_|refine oR ?_);(try intro _);conv=>whnf)
   refine aA.callV (fun Ez Hz Az Sz K=>tI (aN s 0)) ?_
   conv=>whnf
   rw [decide_eq_false h5]
   try dsimp only
   (try refine gS ?_);conv=>whnf
   refine aA.retU (aE.ret tab Tryz.func97 rfl fun Ez Hz Az Sz K=>⟨_,rfl,?_,K.keeps⟩)
   exact congrArg Value.bool (decide_eq_false (by simp [eE,h5])).symm
  conv=>whnf
  refine aA.retU (aE.ret tab Tryz.func97 rfl fun Ez Hz Az Sz K=>⟨_,rfl,?_,K.keeps⟩)
  exact congrArg Value.bool (decide_eq_false (by simp [eE];omega)).symm
 conv=>whnf
 refine aA.retU (aE.ret tab Tryz.func97 rfl fun Ez Hz Az Sz K=>⟨_,rfl,?_,K.keeps⟩)
 exact congrArg Value.bool (decide_eq_false (by simp [eE,h1,h2,h3])).symm

def pD (l:List Tok):List (List Value):=l.map Tok.row
theorem aIS (l:List Tok):(pD l).length=l.length:=by simp [pD]
theorem mN {l:List Tok} {k:Nat} (hk:k<l.length):(pD l)[k]? = some l[k].row:=by
 simp [pD,hk]
def fewLT (l:List Tok):Int:=l.foldl (fun n t=>IntKind.i64.wrap (n+(t.text.size:Int))) 0

def txT (t:Tok):ByteArray:=if t.kind=2 then ⟨(Lib.itoa t.n).toArray⟩ else t.text
def joinB (l:List Tok):ByteArray:=⟨(Lib.join (l.map fun t=>bs (txT t)) [32]).toArray⟩
abbrev AllV (l:List Tok):Prop:=∀t∈l,eE t
def aCT (l:List Tok):Value:=if AllV l then .tuple #[.string (joinB l),.int .i64 0] else .tuple #[.string ⟨#[]⟩,.int .i64 50]
theorem yQ:∀(k u:Nat),u<10^(k+1)→Lib.nDigits u≤k+1
 |0,u,h=>by rw [Lib.nDigits_small (by simpa using h)];exact Nat.le_refl _
 |k+1,u,h=>by
  by_cases hu:u<10
  ·rw [Lib.nDigits_small hu];omega
  rw [Lib.nDigits_big hu]
  rw [Nat.pow_succ] at h
  have:=yQ k (u/10) (by omega)
  omega
theorem zY {n:Int} (h:0≤n):Lib.itoa n=Lib.decDigits n.toNat:=by
 unfold Lib.itoa
 rw [if_neg (by omega)]
theorem aLP {t:Tok} (h:eE t):(txT t).size≤32:=by
 unfold txT
 rcases h with ⟨h1,h2,_⟩|⟨h1,_,h3,h4⟩|⟨h1,h2,_⟩
 ·rw [if_neg (by omega)]
  have:=h2.1
  omega
 ·rw [if_pos h1,zY h3]
  show (Lib.decDigits t.n.toNat).toArray.size≤32
  rw [List.size_toArray,Lib.decDigits_length]
  have:=yQ 12 t.n.toNat (by omega)
  omega
 rw [if_neg (by omega)]
 omega
theorem aTH (xs:List Bs) (y:Bs):Lib.join (xs++[y]) [32]=if xs=[] then y else Lib.join xs [32]++[32]++y:=by
 cases xs with
 |nil=>rw [if_pos rfl];exact Lib.join_one _ _
 |cons x r=>
  rw [if_neg (by simp),List.cons_append,Lib.join_cons,Lib.join_cons]
  simp [Lib.joinTail]
theorem aGL (l:List Tok) (t:Tok):joinB (l++[t])=if l=[] then txT t else joinB l++⟨#[32]⟩++txT t:=by
 unfold joinB
 rw [List.map_append,List.map_cons,List.map_nil,aTH]
 by_cases hl:l=[]
 ·subst hl
  simp only [List.map_nil,if_true]
 rw [if_neg (by simpa using hl),if_neg hl]
 refine ByteArray.ext ?_
 simp [bs]
theorem aFG {l:List Tok} (h:AllV l):(joinB l).size≤33*l.length:=by
 show (Lib.join (l.map fun t=>bs (txT t)) [32]).toArray.size≤_
 rw [List.size_toArray]
 cases l with
 |nil=>simp [Lib.join_nil]
 |cons t l=>
  have key:∀l:List Tok,AllV l→Lib.lens (l.map fun t=>bs (txT t))≤32*l.length:=by
   intro l
   induction l with
   |nil=>intro _;simp [Lib.lens]
   |cons t l ih=>
    intro h
    have h1:=aLP (h t (List.mem_cons_self ..))
    have h2:=ih fun t ht=>h t (List.mem_cons_of_mem _ ht)
    simp only [Lib.lens,List.map_cons,List.sum_cons,List.length_cons,kY] at h2 ⊢
    omega
  rw [List.map_cons,Lib.join_length]
  have:=key (t::l) h
  simp only [List.map_cons,List.length_cons,List.length_map,List.length_nil] at this ⊢
  omega
theorem aBT {l:List Tok} {k:Nat} (hk:k<l.length) (h:AllV (l.take k)) (hv:eE l[k]):AllV (l.take (k+1)):=by
 rw [List.take_succ_eq_append_getElem hk]
 intro t ht
 rcases List.mem_append.1 ht with ht|ht
 ·exact h t ht
 rw [List.mem_singleton.1 ht];exact hv
def aII (l:List Tok):List (List Value):=(l.map txT).map fun x=>[Value.string x]
theorem aIR {l:List Tok} {k:Nat} (hk:k<l.length) {x:ByteArray} (hx:x=txT l[k]):aII (l.take k)++tC 1 1 [Value.string x]=aII (l.take (k+1)):=by
 unfold aII
 rw [List.take_succ_eq_append_getElem hk,List.map_append,List.map_append,hx];rfl
theorem aJB (l:List Tok):(aII l).length=l.length:=by simp [aII]
theorem Text_fn {h:Array Obj} (l:List Tok) (h200:l.length≤65536) {v:Value} (hv:Ro h v 4 (pD l)) (hT:uC h):FnV Tryz.prog 20 #[v] h fun r h'=>r=aCT l∧bW h.size h h':=by
 have hl:=aIS l
 have hm:=hv.len
 refine Fn.ofG (envL [v]) 1 [.buf 0] [(0,.ro (4) (pD l))] (fun k=>k<_) Tryz.func20 (by kernel_rfl) rfl Tryz.ntmps20 rfl (fun _ hk=>hk) (Sat.ros (vs:=[v]) (l:=[(4,pD l)]) ⟨hv,trivial⟩) fun w0 cs=>?_
 conv=>whnf
 refine gS ?_;conv=>whnf
 refine aA.subR (nx':=1) (l':=[(9,.v (.int .i64 0)),(8,.v (.int .i64 (pD l).length)),(7,.buf 0),(4,.v (.slice none 0 0))]) (H':=[(0,.ro 4 (pD l))]) [] ?_ sH sH
 refine aA.nilOwn (l':=[(9,.v (.int .i64 0)),(8,.v (.int .i64 (pD l).length)),(7,.buf 0),(4,.buf 1)]) (H':=[(0,.ro 4 (pD l))]) 9 1 ?_ (by rfl) (by rfl) (by rfl)
 refine aA.subR [] (aA.loop (fun (k:Nat)=>[(9,.v (.int .i64 k)),(8,.v (.int .i64 (pD l).length)),(7,.buf 0),(4,.buf 1)]) (fun (k:Nat)=>[(0,.ro 4 (pD l)),(1,.own 9 1 (aII (l.take k)))]) 2 (fun (k:Nat)=>k≤l.length∧AllV (l.take k)) (fun (k:Nat)=>l.length - k) ?round1 (0) ?J01) sH sH
 case J01=>exact (⟨Nat.zero_le _,fun _ h=>(by cases h)⟩)
 rintro k hJ back
 try dsimp only at hJ back
 conv=>whnf
 try dsimp only
 refine gS ?_;conv=>whnf
 refine ⟨fun hk=>?_,fun hk=>?_⟩<;>conv=>whnf
 ·have hk:k<l.length:=by omega
  conv=>whnf
  repeat ((first|refine oM ?_|refine oL ?_|refine oR ?_);(try intro _);conv=>whnf)
  refine ⟨_,mN hk,?_⟩;conv=>whnf
  try (refine oN ?_;conv=>whnf)
  by_cases hv:eE l[k]
  ·refine aA.callV (fun Ez Hz Az Sz K=>aNO l[k]) ?_
   conv=>whnf
   rw [decide_eq_true hv]
   (try refine gS ?_);conv=>whnf
   refine ⟨fun h2=>?_,fun h2=>?_⟩<;>conv=>whnf
   ·have hx:txT l[k]=⟨(Lib.itoa l[k].n).toArray⟩:=if_pos h2
    have hn:0≤l[k].n∧l[k].n≤1099511627776:=by
     rcases hv with e|e|e
     ·have:=e.1;omega
     ·exact e.2.2
     have:=e.1;omega
    conv=>whnf
    refine aA.callV (fun Ez Hz Az Sz K=>Itoa_fn l[k].n hn.1 (by omega) (hT.keeps ⟨K.size,K.same⟩)) ?_
    conv=>whnf
    (try refine gS ?_);conv=>whnf
    refine And.intro (gG (by rw [aJB,List.length_take];omega)) ?_;conv=>whnf
    repeat ((first|refine oM ?_|refine oL ?_|refine oR ?_);(try intro _);conv=>whnf)
    refine aA.rowsEq (4) (aIR hk hx.symm) ?_;conv=>whnf
    refine aA.subR [(1,4)] (back (k+1) (by exact (⟨hk,aBT hk hJ.2 hv⟩)) (by (try dsimp only);omega)) sH sH
   have hx:txT l[k]=l[k].text:=if_neg h2
   conv=>whnf
   refine And.intro (gG (by rw [aJB,List.length_take];omega)) ?_;conv=>whnf
   repeat ((first|refine oM ?_|refine oL ?_|refine oR ?_);(try intro _);conv=>whnf)
   refine aA.rowsEq (4) (aIR hk hx.symm) ?_;conv=>whnf
   refine aA.subR [(1,4)] (back (k+1) (by exact (⟨hk,aBT hk hJ.2 hv⟩)) (by (try dsimp only);omega)) sH sH
  refine aA.callV (fun Ez Hz Az Sz K=>aNO l[k]) ?_
  conv=>whnf
  rw [decide_eq_false hv]
  (try refine gS ?_);conv=>whnf
  refine aA.retU (aE.ret tab Tryz.func20 rfl fun Ez Hz Az Sz K=>⟨_,rfl,?_,K.keeps⟩)
  unfold aCT
  rw [if_neg fun e=>hv (e _ (List.getElem_mem hk))];rfl
 have hk:k=l.length:=by omega
 have hall:=hJ.2
 rw [hk,List.take_length] at hall
 conv=>whnf
 rw [hk,List.take_length]
 have hj:(Lib.join ((l.map txT).map (·.data.toList)) (⟨#[32]⟩:ByteArray).data.toList)=Lib.join (l.map fun t=>bs (txT t)) [32]:=by rw [List.map_map];rfl
 have hsz:=aFG hall
 have hsz':(Lib.join (l.map fun t=>bs (txT t)) [32]).length≤33*l.length:=by
  rw [←List.size_toArray];exact hsz
 refine aA.callV (fun Ez Hz Az Sz K=>Join_fn (l.map txT) ⟨#[32]⟩ (Sz.ok (1,_) (cG rfl)).2.1 (by rw [List.length_map];omega) (by rw [hj];omega)) ?_
 conv=>whnf
 (try refine gS ?_);conv=>whnf
 refine aA.retU (aE.ret tab Tryz.func20 rfl fun Ez Hz Az Sz K=>⟨_,rfl,?_,K.keeps⟩)
 unfold aCT
 rw [if_pos hall,hj];rfl
theorem xT (u:Nat):Lib.decDigits u=(if u<10 then [] else Lib.decDigits (u/10))++[UInt8.ofNat (48+u%10)]:=by
 rw [Lib.decDigits]
 split
 ·rw [Nat.mod_eq_of_lt (by assumption)];rfl
 rfl
theorem aNE (m:Nat):aJY [(48+(m:Int)%10)%256]=⟨#[UInt8.ofNat (48+m%10)]⟩:=by
 unfold aJY
 rw [show (48+(m:Int)%10)%256=((48+m%10:Nat):Int) by omega]
 rfl
theorem aCY {h:Array Obj} (n:Nat) (hn:n≤1099511627776):FnV Tryz.prog 98 #[.int .i64 n] h fun r h'=>r=.string ⟨(Lib.decDigits n).toArray⟩∧bW h.size h h':=by
 have h13:(Lib.decDigits n).length≤13:=by
  rw [Lib.decDigits_length]
  exact yQ 12 n (by omega)
 refine Fn.ofS (args:=[.int .i64 n]) Tryz.func98 (by kernel_rfl) rfl Tryz.ntmps98 rfl fun w0 cs=>?_
 conv=>whnf
 refine gS ?_;conv=>whnf
 repeat ((first|refine oM ?_|refine oL ?_|refine oR ?_);(try intro _);conv=>whnf)
 refine ⟨[(48+(n:Int)%10)%256],by rfl,?_⟩
 conv=>whnf
 rw [aNE]
 refine aA.subR [] (aA.loop (fun (⟨m,s⟩:Nat×ByteArray)=>[(3,.v (.string s)),(0,.v (.int .i64 m))]) (fun (⟨m,s⟩:Nat×ByteArray)=>[]) 0 (fun (⟨m,s⟩:Nat×ByteArray)=>m≤n∧Lib.decDigits n=(if m<10 then [] else Lib.decDigits (m/10))++bs s) (fun (⟨m,s⟩:Nat×ByteArray)=>m) ?round4 ((n,⟨#[UInt8.ofNat (48+n%10)]⟩)) ?J04) sH sH
 case J04=>exact (⟨Nat.le_refl _,xT n⟩)
 rintro ⟨m,s⟩ hJ back
 try dsimp only at hJ back
 conv=>whnf
 try dsimp only
 refine gS ?_;conv=>whnf
 refine ⟨fun hk=>?_,fun hk=>?_⟩<;>conv=>whnf
 ·have hm:¬m<10:=by omega
  have hs:=hJ.2
  rw [if_neg hm] at hs
  have hsz:s.size≤13:=by
   have:=congrArg List.length hs
   rw [List.length_append,kY] at this
   omega
  conv=>whnf
  repeat ((first|refine oM ?_|refine oL ?_|refine oR ?_);(try intro _);conv=>whnf)
  rw [show (m:Int)/10=((m/10:Nat):Int) by omega]
  have h1:(aJY [(48+((m/10:Nat):Int)%10)%256]).size=1:=rfl
  refine ⟨[(48+((m/10:Nat):Int)%10)%256],by rfl,?_⟩
  conv=>whnf
  repeat ((first|refine oM ?_|refine oL ?_|refine oR ?_);(try intro _);conv=>whnf)
  rw [aNE]
  refine aA.subR [] (back ((m/10,⟨#[UInt8.ofNat (48+m/10%10)]⟩++s)) (by exact (⟨by dsimp only;omega,by dsimp only;rw [hs,xT (m/10),List.append_assoc];simp [bs]⟩)) (by exact (by dsimp only;omega))) sH sH
 conv=>whnf
 refine aA.retU (aE.ret tab Tryz.func98 rfl fun Ez Hz Az Sz K=>⟨_,rfl,?_,K.keeps⟩)
 have hs:=hJ.2
 rw [if_pos (by omega)] at hs
 rw [hs]
 exact congrArg Value.string (kG s).symm
theorem aQQ {l:List Tok} {k:Nat} (hk:k<l.length) (h0:0<k):joinB (l.take (k+1))=joinB (l.take k)++⟨#[32]⟩++txT l[k]:=by
 rw [List.take_succ_eq_append_getElem hk,aGL,if_neg (by
  intro e
  have:=congrArg List.length e
  rw [List.length_take] at this
  simp only [List.length_nil] at this
  omega)]
theorem aMT {l:List Tok} (hk:0<l.length):joinB (l.take 1)=txT l[0]:=by
 rw [List.take_succ_eq_append_getElem hk,aGL,List.take_zero,if_pos rfl]
theorem aXC {h:Array Obj} (l:List Tok) (h200:l.length≤65536) {v:Value} (hv:Ro h v 4 (pD l)):FnV Tryz.prog 33 #[v] h fun r h'=>r=aCT l∧bW h.size h h':=by
 have hl:=aIS l
 have hm:=hv.len
 refine Fn.ofG (envL [v]) 1 [.buf 0] [(0,.ro (4) (pD l))] (fun k=>k<_) Tryz.func33 (by kernel_rfl) rfl Tryz.ntmps33 rfl (fun _ hk=>hk) (Sat.ros (vs:=[v]) (l:=[(4,pD l)]) ⟨hv,trivial⟩) fun w0 cs=>?_
 conv=>whnf
 refine gS ?_;conv=>whnf
 refine aA.subR [] (aA.loop (fun (k:Nat)=>[(5,.v (.int .i64 k)),(4,.v (.string (joinB (l.take k)))),(0,.buf 0)]) (fun (k:Nat)=>[(0,.ro 4 (pD l))]) 1 (fun (k:Nat)=>k≤l.length∧AllV (l.take k)) (fun (k:Nat)=>l.length - k) ?round6 (0) ?J06) sH sH
 case J06=>exact (⟨Nat.zero_le _,fun _ h=>(by cases h)⟩)
 rintro k hJ back
 try dsimp only at hJ back
 conv=>whnf
 try dsimp only
 refine gS ?_;conv=>whnf
 have hsz:=aFG hJ.2
 rw [List.length_take] at hsz
 refine ⟨fun hk=>?_,fun hk=>?_⟩<;>conv=>whnf
 ·have hk:k<l.length:=by omega
  conv=>whnf
  repeat ((first|refine oM ?_|refine oL ?_|refine oR ?_);(try intro _);conv=>whnf)
  refine ⟨_,mN hk,?_⟩;conv=>whnf
  try (refine oN ?_;conv=>whnf)
  by_cases hv:eE l[k]
  ·refine aA.callV (fun Ez Hz Az Sz K=>xU l[k]) ?_
   conv=>whnf
   rw [decide_eq_true hv]
   (try refine gS ?_);conv=>whnf
   have hall:=aBT hk hJ.2 hv
   have htx:=aLP hv
   have s1:(⟨#[32]⟩:ByteArray).size=1:=rfl
   refine ⟨fun h0=>?_,fun h0=>?_⟩<;>conv=>whnf
   ·have h0:0<k:=by omega
    have hn:=aQQ hk h0
    have hs2:(joinB (l.take k)++⟨#[32]⟩).size=(joinB (l.take k)).size+1:=ByteArray.size_append
    conv=>whnf
    repeat ((first|refine oM ?_|refine oL ?_|refine oR ?_);(try intro _);conv=>whnf)
    refine ⟨_,mN hk,?_⟩;conv=>whnf
    refine ⟨fun h2=>?_,fun h2=>?_⟩<;>conv=>whnf
    ·have hx:txT l[k]=⟨(Lib.itoa l[k].n).toArray⟩:=if_pos h2
     have hn2:0≤l[k].n∧l[k].n≤1099511627776:=by
      rcases hv with e|e|e
      ·have:=e.1;omega
      ·exact e.2.2
      have:=e.1;omega
     obtain ⟨m,hmn⟩:∃m:Nat,l[k].n=m:=⟨l[k].n.toNat,by omega⟩
     have hd:(⟨(Lib.decDigits m).toArray⟩:ByteArray)=txT l[k]:=by
      rw [hx,hmn,zY (by omega)];rfl
     conv=>whnf
     repeat ((first|refine oM ?_|refine oL ?_|refine oR ?_);(try intro _);conv=>whnf)
     refine ⟨_,mN hk,?_⟩;conv=>whnf
     rw [hmn]
     refine aA.callV (fun Ez Hz Az Sz K=>aCY m (by omega)) ?_
     conv=>whnf
     rw [hd]
     try dsimp only
     (try refine gS ?_);conv=>whnf
     repeat ((first|refine oM ?_|refine oL ?_|refine oR ?_);(try intro _);conv=>whnf)
     rw [←hn]
     refine aA.subR [] (back (k+1) (by exact (⟨hk,hall⟩)) (by (try dsimp only);omega)) sH sH
    have hx:txT l[k]=l[k].text:=if_neg h2
    rw [hx] at htx hn
    conv=>whnf
    repeat ((first|refine oM ?_|refine oL ?_|refine oR ?_);(try intro _);conv=>whnf)
    refine ⟨_,mN hk,?_⟩;conv=>whnf
    try (refine oN ?_;conv=>whnf)
    repeat ((first|refine oM ?_|refine oL ?_|refine oR ?_);(try intro _);conv=>whnf)
    rw [←hn]
    refine aA.subR [] (back (k+1) (by exact (⟨hk,hall⟩)) (by (try dsimp only);omega)) sH sH
   have hn:joinB (l.take k)++txT l[k]=joinB (l.take (k+1)):=by
    have h0:k=0:=by omega
    subst h0
    rw [aMT hk]
    exact ByteArray.ext (by simp [joinB,Lib.join_nil])
   conv=>whnf
   repeat ((first|refine oM ?_|refine oL ?_|refine oR ?_);(try intro _);conv=>whnf)
   refine ⟨_,mN hk,?_⟩;conv=>whnf
   refine ⟨fun h2=>?_,fun h2=>?_⟩<;>conv=>whnf
   ·have hx:txT l[k]=⟨(Lib.itoa l[k].n).toArray⟩:=if_pos h2
    have hn2:0≤l[k].n∧l[k].n≤1099511627776:=by
     rcases hv with e|e|e
     ·have:=e.1;omega
     ·exact e.2.2
     have:=e.1;omega
    obtain ⟨m,hmn⟩:∃m:Nat,l[k].n=m:=⟨l[k].n.toNat,by omega⟩
    have hd:(⟨(Lib.decDigits m).toArray⟩:ByteArray)=txT l[k]:=by
     rw [hx,hmn,zY (by omega)];rfl
    conv=>whnf
    repeat ((first|refine oM ?_|refine oL ?_|refine oR ?_);(try intro _);conv=>whnf)
    refine ⟨_,mN hk,?_⟩;conv=>whnf
    rw [hmn]
    refine aA.callV (fun Ez Hz Az Sz K=>aCY m (by omega)) ?_
    conv=>whnf
    rw [hd]
    try dsimp only
    (try refine gS ?_);conv=>whnf
    repeat ((first|refine oM ?_|refine oL ?_|refine oR ?_);(try intro _);conv=>whnf)
    rw [hn]
    refine aA.subR [] (back (k+1) (by exact (⟨hk,hall⟩)) (by (try dsimp only);omega)) sH sH
   have hx:txT l[k]=l[k].text:=if_neg h2
   rw [hx] at htx hn
   conv=>whnf
   repeat ((first|refine oM ?_|refine oL ?_|refine oR ?_);(try intro _);conv=>whnf)
   refine ⟨_,mN hk,?_⟩;conv=>whnf
   try (refine oN ?_;conv=>whnf)
   repeat ((first|refine oM ?_|refine oL ?_|refine oR ?_);(try intro _);conv=>whnf)
   rw [hn]
   refine aA.subR [] (back (k+1) (by exact (⟨hk,hall⟩)) (by (try dsimp only);omega)) sH sH
  refine aA.callV (fun Ez Hz Az Sz K=>xU l[k]) ?_
  conv=>whnf
  rw [decide_eq_false hv]
  (try refine gS ?_);conv=>whnf
  refine aA.retU (aE.ret tab Tryz.func33 rfl fun Ez Hz Az Sz K=>⟨_,rfl,?_,K.keeps⟩)
  unfold aCT
  rw [if_neg fun e=>hv (e _ (List.getElem_mem hk))];rfl
 have hk:k=l.length:=by omega
 have hall:=hJ.2
 rw [hk,List.take_length] at hall
 conv=>whnf
 refine aA.retU (aE.ret tab Tryz.func33 rfl fun Ez Hz Az Sz K=>⟨_,rfl,?_,K.keeps⟩)
 rw [hk,List.take_length]
 unfold aCT
 rw [if_pos hall];rfl

theorem aRD (src:ByteArray):lexA src=match rY (bs src) 0 with
  | .inl l=>.inl (pK l)
  | .inr q=>.inr q:=by
 unfold lexA
 rw [lexG_eq src 0 (Nat.zero_le _),List.drop_zero]
 cases rY (bs src) 0<;>simp
theorem lexO_ok {src:ByteArray} {l:List (Nat×Tk)} (h:rY (bs src) 0=.inl l):aHI src=.ret (.tup [.buf 0,.v (.int .i64 0),.v (.int .i64 0)]) 1 [aZ (pK l) 0]:=by
 unfold aHI
 rw [aRD,h]
theorem aNL {src:ByteArray} {q:Nat} (h:rY (bs src) 0=.inr q):aHI src=.ret (.tup [.v (.slice none 0 0),.v (.int .i64 q),.v (.int .i64 50)]) 0 []:=by
 unfold aHI
 rw [aRD,h]
theorem aYB {src:ByteArray} (hs:src.size≤65536) {l:List (Nat×Tk)} (h:rY (bs src) 0=.inl l):FnS Tryz.prog 19 0 [.v (.string src)] [] (fun _:Unit=>True) (fun _=>.ret (.tup [.buf 0,.v (.int .i64 0),.v (.int .i64 0)]) 1 [aZ (pK l) 0]):=by
 have:=aXZ src hs
 rwa [lexO_ok h] at this
theorem aTR {src:ByteArray} (hs:src.size≤65536) {q:Nat} (h:rY (bs src) 0=.inr q):FnS Tryz.prog 19 0 [.v (.string src)] [] (fun _:Unit=>True) (fun _=>.ret (.tup [.v (.slice none 0 0),.v (.int .i64 q),.v (.int .i64 50)]) 0 []):=by
 have:=aXZ src hs
 rwa [aNL h] at this
theorem aPI {src:ByteArray} (hs:src.size≤65536) {q:Nat} (h:rY (bs src) 0=.inr q):FnS Tryz.prog 25 0 [.v (.string src)] [] (fun _:Unit=>True) (fun _=>.ret (.tup [.v (.slice none 0 0),.v (.int .i64 q),.v (.int .i64 50)]) 0 []):=by
 have:=rlex_fn src hs
 rwa [aNL h] at this
end Go.Proofs.YtgbeechjghajcaaGreatDoor

namespace Go.Proofs.YtgbeechjghajcaaGreatDoor
open Go Go.Fw
abbrev NameL (b:Bs):Prop:=(1≤b.length∧b.length≤32)∧cls (b.headD 0).toNat=2 ∧ ∀c∈b,nmC c.toNat=true
def Tk.ok:Tk→Prop
 | .name b=>NameL b
 | .num n=>n≤1099511627776
 | .sign c=>cls c.toNat=4
def Tk.tx:Tk→Bs
 | .name b=>b
 | .num n=>Lib.decDigits n
 | .sign c=>[c]
theorem aYG (a b:Bs):∀x,qM (a++b) x=(qM a x).bind (qM b):=by
 induction a with
 |nil=>intro x;rfl
 |cons c r ih=>
  intro x
  simp only [List.cons_append,qM]
  split
  ·exact ih _
  rfl
theorem of_dgC {c:Nat} (h:dgC c=true):48≤c∧c≤57:=(cls3 c).1 ((aKG c).1 h)
theorem aXR:∀(ds:Bs) (n:Nat),ds ≠ []→(∀c∈ds,48≤c.toNat∧c.toNat≤57) → ¬(1<ds.length∧(ds.headD 0).toNat=48)→qM ds 0=some n→Lib.decDigits n=ds∧(1<ds.length→10≤n):=by
 intro ds
 induction h:ds.length generalizing ds with
 |zero=>intro n hn;exact absurd (List.eq_nil_of_length_eq_zero h) hn
 |succ k ih=>
  intro n hne hd hz hnum
  obtain ⟨xs,d,rfl⟩:∃xs d,ds=xs++[d]:=⟨ds.dropLast,ds.getLast hne,(List.dropLast_concat_getLast hne).symm⟩
  have hdd:=hd d (List.mem_append_right _ (List.mem_singleton.2 rfl))
  have hback:∀x:Nat,x%10=d.toNat - 48→UInt8.ofNat (48+x%10)=d:=fun x hx=>by
   rw [hx,show 48+(d.toNat - 48)=d.toNat by omega,UInt8.ofNat_toNat]
  rw [aYG] at hnum
  have hxk:xs.length=k:=by simpa using h
  by_cases hxs:xs=[]
  ·subst hxs
   simp only [qM,Option.bind_some] at hnum
   rw [if_pos (by omega)] at hnum
   cases hnum
   have hk0:k=0:=by simpa using h
   refine ⟨?_,fun hk=>by omega⟩
   rw [xT,if_pos (by omega),hback _ (by omega)]
  cases hm:qM xs 0 with
  |none=>rw [hm] at hnum;cases hnum
  |some m=>
   rw [hm] at hnum
   simp only [Option.bind_some,qM] at hnum
   split at hnum
   ·cases hnum
    have hhead:(xs++[d]).headD 0=xs.headD 0:=by
     cases xs with
     |nil=>exact absurd rfl hxs
     |cons x r=>rfl
    have hl:(xs++[d]).length=xs.length+1:=by simp
    have hpos:0<xs.length:=List.length_pos_iff.2 hxs
    rw [hhead] at hz
    obtain ⟨i1,i2⟩:=ih xs hxk m hxs (fun c hc=>hd c (List.mem_append_left _ hc)) (fun e=>hz ⟨by omega,e.2⟩) hm
    have hm1:1≤m:=by
     by_cases h1:1<k
     ·have:=i2 h1;omega
     have:((Lib.decDigits m).headD 0).toNat≠48:=by rw [i1];exact fun e=>hz ⟨by omega,e⟩
     rcases Nat.eq_zero_or_pos m with rfl|hm
     ·exact absurd (by rw [Lib.decDigits_one (by decide)];rfl) this
     exact hm
    refine ⟨?_,fun _=>by omega⟩
    rw [xT,if_neg (by omega),hback _ (by omega),show (10*m+(d.toNat - 48))/10=m by omega,i1]
   cases hnum
theorem aIZ {b:Bs} {k:Nat} (hk:0<k):(b.take k).headD 0=b.headD 0:=by
 cases b with
 |nil=>simp
 |cons c r=>
  cases k with
  |zero=>omega
  |succ k=>rfl
theorem aLO {b:Bs} {t:Tk} {k:Nat} (h:yJ b=some (some t,k)):t.ok∧t.tx=b.take k:=by
 have hk:=wA h
 cases b with
 |nil=>cases h
 |cons c r=>
  simp only [yJ] at h
  split at h
  ·cases h
  split at h
  ·cases h
  split at h
  ·rename_i hc
   split at h
   ·cases h
   cases h
   have hle:=tQ nmC (c::r)
   refine ⟨⟨⟨?_,?_⟩,?_,fun x hx=>aGP x hx⟩,rfl⟩
   ·rw [List.length_take];omega
   ·rw [List.length_take];omega
   rw [aIZ hk.1];exact hc
  split at h
  ·rename_i hc
   split at h
   ·cases h
   rename_i hz
   split at h
   ·cases h
   rename_i n hn
   cases h
   have hle:=tQ dgC (c::r)
   have hlen:((c::r).take (qW dgC (c::r))).length=qW dgC (c::r):=by rw [List.length_take];omega
   obtain ⟨h1,_⟩:=aXR _ n (fun e=>by rw [e] at hlen;simp at hlen;omega) (fun x hx=>of_dgC (aGP x hx)) (by rw [hlen,aIZ hk.1];exact hz) hn
   refine ⟨?_,h1⟩
   have key:∀(ds:Bs) (a n:Nat),a≤1099511627776→qM ds a=some n→n≤1099511627776:=by
    intro ds
    induction ds with
    |nil=>intro a n ha hn;cases hn;exact ha
    |cons x xs ih=>
     intro a n ha hn
     simp only [qM] at hn
     split at hn
     ·exact ih _ _ (by assumption) hn
     cases hn
   exact key _ 0 n (by decide) hn
  split at h
  ·cases h
  rename_i h0 h1 h2 h3 _
  cases h
  refine ⟨?_,rfl⟩
  have:=aCD c.toNat
  show cls c.toNat=4
  omega
theorem lexS_ok:∀(n:Nat) (b:Bs) (p:Nat) (l:List (Nat×Tk)),b.length=n→rY b p=.inl l → ∀q∈l,q.2.ok:=by
 intro n
 induction n using Nat.strongRecOn with
 |_ n ih=>
  intro b p l hn h q hq
  by_cases hb:b=[]
  ·subst hb
   rw [aFK] at h
   cases h
   cases hq
  rw [aBN hb] at h
  split at h
  ·cases h
  rename_i t k hk
  have hok:=wA hk
  split at h
  ·cases h
  rename_i l' hl
  cases h
  have:=ih (b.drop k).length (by rw [List.length_drop];omega) _ _ _ rfl hl
  cases t with
  |none=>exact this q hq
  |some t=>
   rcases List.mem_cons.1 hq with rfl|hq
   ·exact (aLO hk).1
   exact this q hq
theorem aOG:∀(n:Nat) (b:Bs) (p:Nat) (l:List (Nat×Tk)),b.length=n→rY b p=.inl l→l.length≤n∧(l.map fun q=>q.2.tx.length).sum≤n:=by
 intro n
 induction n using Nat.strongRecOn with
 |_ n ih=>
  intro b p l hn h
  by_cases hb:b=[]
  ·subst hb
   rw [aFK] at h
   cases h
   simp
  rw [aBN hb] at h
  split at h
  ·cases h
  rename_i t k hk
  have hok:=wA hk
  split at h
  ·cases h
  rename_i l' hl
  cases h
  have:=ih (b.drop k).length (by rw [List.length_drop];omega) _ _ _ rfl hl
  rw [List.length_drop] at this
  cases t with
  |none=>simp only [vY];omega
  |some t=>
   have:=(aLO hk).2
   have hl:=congrArg List.length this
   rw [List.length_take] at hl
   simp only [vY,List.length_cons,List.map_cons,List.sum_cons]
   omega

theorem aSX (b:Bs):uJ ⟨b.toArray⟩↔NameL b:=by
 have hb:∀i,aN ⟨b.toArray⟩ i=(b.getD i 0).toNat:=fun i=>rfl
 constructor
 ·rintro ⟨h1,h2,h3⟩
  refine ⟨h1,?_,fun c hc=>?_⟩
  ·rw [hb] at h2
   cases b<;>exact h2
  obtain ⟨i,hi,rfl⟩:=List.getElem_of_mem hc
  have:=h3 i hi
  rwa [hb,List.getD_eq_getElem?_getD,List.getElem?_eq_getElem hi] at this
 rintro ⟨h1,h2,h3⟩
 refine ⟨h1,?_,fun i hi=>?_⟩
 ·rw [hb]
  cases b<;>exact h2
 rw [hb,List.getD_eq_getElem?_getD,List.getElem?_eq_getElem (show i<b.length from hi)]
 exact h3 _ (List.getElem_mem _)
theorem aIQ {t:Tk} (h:t.ok) (p:Nat):eE (t.tok p)∧bs (txT (t.tok p))=t.tx:=by
 cases t with
 |name b=>exact ⟨.inl ⟨rfl,(aSX b).2 h,rfl⟩,rfl⟩
 |num n=>
  refine ⟨.inr (.inl ⟨rfl,rfl,by show (0:Int)≤(n:Int);omega,by show (n:Int)≤_;have:n≤1099511627776:=h;omega⟩),?_⟩
  show bs (txT ⟨2,p,⟨#[]⟩,n⟩)=Lib.decDigits n
  unfold txT
  rw [if_pos rfl,zY (Int.natCast_nonneg n)];rfl
 |sign c=>exact ⟨.inr (.inr ⟨rfl,rfl,h,rfl⟩),rfl⟩
theorem aYA {b:Bs} {L:List (Nat×Tk)} (h:rY b 0=.inl L):AllV (pK L)∧(pK L).length≤b.length∧(joinB (pK L)).size≤2*b.length:=by
 have hok:=lexS_ok _ b 0 L rfl h
 obtain ⟨h1,h2⟩:=aOG _ b 0 L rfl h
 refine ⟨fun t ht=>?_,by simpa [pK] using h1,?_⟩
 ·obtain ⟨q,hq,rfl⟩:=List.mem_map.1 ht
  exact (aIQ (hok q hq) q.1).1
 show (Lib.join ((pK L).map fun t=>bs (txT t)) [32]).toArray.size≤_
 have e:((pK L).map fun t=>bs (txT t))=L.map fun q=>q.2.tx:=by
  simp only [pK,List.map_map]
  exact List.map_congr_left fun q hq=>(aIQ (hok q hq) q.1).2
 rw [List.size_toArray,e]
 cases L with
 |nil=>simp [Lib.join_nil]
 |cons q L=>
  rw [List.map_cons,Lib.join_length]
  simp only [Lib.lens,List.map_cons,List.sum_cons,List.length_cons,List.length_map,List.map_map,List.length_nil,Function.comp_def] at h1 h2 ⊢
  omega

end Go.Proofs.YtgbeechjghajcaaGreatDoor

namespace Go.Proofs.YtgbeechjghajcaaGreatDoor
open Go Go.Fw
set_option maxRecDepth 100000
set_option maxHeartbeats 99999999


end Go.Proofs.YtgbeechjghajcaaGreatDoor

namespace Go.NatM
abbrev mt:ByteArray:=⟨#[]⟩
end Go.NatM
namespace Go.RatM
open Go Go.Fw Go.NatM
structure Rt where
 neg:Bool
 n:ByteArray
 d:ByteArray
def Rt.v (a:Rt):Value:=.agg #[.bool a.neg,.string a.n,.string a.d]
def zr:Rt:=⟨false,NatM.mt,NatM.mt⟩
structure Un where
 name:ByteArray
 of_:ByteArray
 n:Int
 d:Int
 base:Int
 scale:Rt
def Un.row (u:Un):List Value:=[.string u.name,.string u.of_,.int .i64 u.n,.int .i64 u.d,.int .i64 u.base,.bool u.scale.neg,.string u.scale.n,.string u.scale.d]
def Un.v (u:Un):Value:=.agg u.row.toArray
theorem Un.ext8 {u v:Un} (h:u.name=v.name∧u.of_=v.of_∧u.n=v.n∧u.d=v.d∧u.base=v.base∧u.scale.neg=v.scale.neg∧u.scale.n=v.scale.n∧u.scale.d=v.scale.d):u=v:=by
 obtain ⟨a,b,c,d,e,⟨f,g,i⟩⟩:=u
 obtain ⟨a',b',c',d',e',⟨f',g',i'⟩⟩:=v
 obtain ⟨rfl,rfl,rfl,rfl,rfl,rfl,rfl,rfl⟩:=h
 rfl
theorem Un.ext8_iff {u v:Un}:u=v↔(u.name=v.name∧u.of_=v.of_∧u.n=v.n∧u.d=v.d∧u.base=v.base∧u.scale.neg=v.scale.neg∧u.scale.n=v.scale.n∧u.scale.d=v.scale.d):=
 ⟨fun e=>by subst e;simp,Un.ext8⟩
instance:DecidableEq Un:=fun _ _=>decidable_of_iff _ Un.ext8_iff.symm
def fQ (l:List Un):List (List Value):=l.map Un.row
theorem cB (l:List Un):(fQ l).length=l.length:=by simp [fQ]
theorem sY {l:List Un} {k:Nat} (hk:k<l.length):(fQ l)[k]? = some l[k].row:=by simp [fQ,hk]
end Go.RatM

namespace Go.SrcM
open Go Go.Fw Go.RatM
abbrev rws {α:Type} (f:α→List Value) (l:List α):List (List Value):=l.map f
theorem aG {α:Type} (f:α→List Value) (l:List α):(rws f l).length=l.length:=by simp [rws]
theorem aK {α:Type} {f:α→List Value} {l:List α} {k:Nat} (hk:k<l.length):(rws f l)[k]? = some (f l[k]):=by simp [rws,hk]
abbrev jY (l:List ByteArray):List (List Value):=rws (fun s=>[Value.string s]) l
theorem pG (l:List ByteArray):(jY l).length=l.length:=aG _ l
structure It where
 name:ByteArray
 unit:ByteArray
 mn:Int
 md:Int
 shelf:Int
 un:Int
def It.row (i:It):List Value:=[.string i.name,.string i.unit,.int .i64 i.mn,.int .i64 i.md,.int .i64 i.shelf,.int .i64 i.un]
structure Mc where
 name:ByteArray
 plant:ByteArray
 clean:Int
 pn:Int
def Mc.row (i:Mc):List Value:=[.string i.name,.string i.plant,.int .i64 i.clean,.int .i64 i.pn]
structure Cd where
 opt:ByteArray
 ch:ByteArray
 on:Int
 cn:Int
def Cd.row (i:Cd):List Value:=[.string i.opt,.string i.ch,.int .i64 i.on,.int .i64 i.cn]
structure Am where
 n:Int
 d:Int
 unit:ByteArray
 item:ByteArray
 back:Bool
 un:Int
 inn:Int
def Am.row (i:Am):List Value:=[.int .i64 i.n,.int .i64 i.d,.string i.unit,.string i.item,.bool i.back,.int .i64 i.un,.int .i64 i.inn]
structure Rn where
 mach:ByteArray
 slots:Int
 mn:Int
def Rn.row (i:Rn):List Value:=[.string i.mach,.int .i64 i.slots,.int .i64 i.mn]
structure Sw where
 a:ByteArray
 b:ByteArray
 an:Int
 bn:Int
def Sw.row (i:Sw):List Value:=[.string i.a,.string i.b,.int .i64 i.an,.int .i64 i.bn]
structure Hd where
 a:Option Addr
 c:Nat
abbrev Hd.v (h:Hd) (n:Nat):Value:=.slice h.a n h.c
structure OpV where
 name:ByteArray
 hd:Hd
 ch:List ByteArray
def OpV.row (i:OpV):List Value:=[.string i.name,.slice i.hd.a i.ch.length i.hd.c]
structure FbV where
 hd:Hd
 cs:List Cd
def FbV.row (i:FbV):List Value:=[.slice i.hd.a i.cs.length i.hd.c]
structure RcV where
 item:ByteArray
 plant:ByteArray
 fr:Int
 to:Int
 hc:Hd
 cs:List Cd
 hi:Hd
 inn:List Am
 ho:Hd
 out:List Am
 rwN:Int
 rwD:Int
 yN:Int
 yD:Int
 tN:Int
 tD:Int
 lead:Int
 hr:Hd
 runs:List Rn
 inum:Int
 pnum:Int
def RcV.row (r:RcV):List Value:=[.string r.item,.string r.plant,.int .i64 r.fr,.int .i64 r.to,.slice r.hc.a r.cs.length r.hc.c,.slice r.hi.a r.inn.length r.hi.c,.slice r.ho.a r.out.length r.ho.c,.int .i64 r.rwN,.int .i64 r.rwD,.int .i64 r.yN,.int .i64 r.yD,.int .i64 r.tN,.int .i64 r.tD,.int .i64 r.lead,.slice r.hr.a r.runs.length r.hr.c,.int .i64 r.inum,.int .i64 r.pnum]
structure aJ where
 units:List Un
 items:List It
 plants:List ByteArray
 machines:List Mc
 options:List OpV
 forbids:List FbV
 recipes:List RcV
 swaps:List Sw
abbrev srcV (vU vI vP vM vO vF vR vS:Value):Value:=.agg #[vU,vI,vP,vM,vO,vF,vR,vS]
section
variable (G:Nat→Prop) (h:Array Obj)
def OpV.ok (o:OpV):Prop:=RoF G h (o.hd.v o.ch.length) 1 (jY o.ch)
def FbV.ok (o:FbV):Prop:=RoF G h (o.hd.v o.cs.length) 4 (rws Cd.row o.cs)
structure RcV.ok (r:RcV):Prop where
 c:RoF G h (r.hc.v r.cs.length) 4 (rws Cd.row r.cs)
 i:RoF G h (r.hi.v r.inn.length) 7 (rws Am.row r.inn)
 o:RoF G h (r.ho.v r.out.length) 7 (rws Am.row r.out)
 rn:RoF G h (r.hr.v r.runs.length) 3 (rws Rn.row r.runs)
structure aJ.sub (s:aJ):Prop where
 o:∀o∈s.options,o.ok G h
 f:∀o∈s.forbids,o.ok G h
 r:∀o∈s.recipes,o.ok G h
end
section
variable {G G':Nat→Prop} {h h':Array Obj}
theorem OpV.ok.up {o:OpV} (H:o.ok G h) (U:Up G h G' h'):o.ok G' h':=RoF.up U H
theorem FbV.ok.up {o:FbV} (H:o.ok G h) (U:Up G h G' h'):o.ok G' h':=RoF.up U H
theorem RcV.ok.up {o:RcV} (H:o.ok G h) (U:Up G h G' h'):o.ok G' h':=⟨RoF.up U H.c,RoF.up U H.i,RoF.up U H.o,RoF.up U H.rn⟩
theorem aJ.sub.up {s:aJ} (H:s.sub G h) (U:Up G h G' h'):s.sub G' h':=⟨fun o ho=>(H.o o ho).up U,fun o ho=>(H.f o ho).up U,fun o ho=>(H.r o ho).up U⟩
structure Top (h:Array Obj) (vU vI vP vM vO vF vR vS:Value) (s:aJ):Prop where
 U:Ro h vU 8 (fQ s.units)
 I:Ro h vI 6 (rws It.row s.items)
 P:Ro h vP 1 (jY s.plants)
 M:Ro h vM 4 (rws Mc.row s.machines)
 O:Ro h vO 2 (rws OpV.row s.options)
 F:Ro h vF 1 (rws FbV.row s.forbids)
 R:Ro h vR 17 (rws RcV.row s.recipes)
 S:Ro h vS 4 (rws Sw.row s.swaps)
 below:s.sub (fun k=>k<h.size) h
theorem RcV.ok.tok (r:RcV):TOk (fun F h=>r.ok F h):=⟨fun _ _ _ hs H=>H.up ⟨hs,fun _ _=>rfl⟩,fun _ _ _ H K=>H.up ⟨fun _ x=>x,K.same⟩⟩
theorem RoF.tok (v:Value) (sz:Nat) (rows:List (List Value)):TOk (fun F h=>RoF F h v sz rows):=⟨fun _ _ _ hs H=>RoF.up ⟨hs,fun _ _=>rfl⟩ H,fun _ _ _ H K=>RoF.up ⟨fun _ x=>x,K.same⟩ H⟩
end
abbrev i64 (n:Int):Prop:= -9223372036854775808≤n∧n≤9223372036854775807
def Cd.wf (c:Cd):Prop:=i64 c.on∧i64 c.cn
def Am.wf (a:Am):Prop:=i64 a.n∧i64 a.d∧i64 a.un∧i64 a.inn
def Rn.wf (r:Rn):Prop:=i64 r.slots∧i64 r.mn
def Sw.wf (r:Sw):Prop:=i64 r.an∧i64 r.bn
def It.wf (i:It):Prop:=i64 i.mn∧i64 i.md∧i64 i.shelf∧i64 i.un
def Mc.wf (i:Mc):Prop:=i64 i.clean∧i64 i.pn
structure RcV.wf (r:RcV):Prop where
 c:∀c∈r.cs,c.wf
 i:∀c∈r.inn,c.wf
 o:∀c∈r.out,c.wf
 rn:∀c∈r.runs,c.wf
 n:i64 r.fr∧i64 r.to∧i64 r.rwN∧i64 r.rwD∧i64 r.yN∧i64 r.yD∧i64 r.tN∧i64 r.tD∧i64 r.lead∧i64 r.inum∧i64 r.pnum
structure aJ.wf (s:aJ):Prop where
 U:∀u∈s.units,i64 u.n∧i64 u.d
 I:∀u∈s.items,u.wf
 M:∀u∈s.machines,u.wf
 F:∀u∈s.forbids,∀c∈u.cs,c.wf
 R:∀u∈s.recipes,u.wf
 S:∀u∈s.swaps,u.wf
end Go.SrcM

namespace Go.SrcM
open Go Go.Fw Go.RatM
def jU:aJ:=⟨[],[],[],[],[],[],[],[]⟩
def OpV.bare (o:OpV):OpV:={o with hd:=⟨none,0⟩}
def FbV.bare (o:FbV):FbV:={o with hd:=⟨none,0⟩}
def RcV.bare (r:RcV):RcV:={r with hc:=⟨none,0⟩,hi:=⟨none,0⟩,ho:=⟨none,0⟩,hr:=⟨none,0⟩}
def aJ.bare (s:aJ):aJ:={s with options:=s.options.map OpV.bare,forbids:=s.forbids.map FbV.bare,recipes:=s.recipes.map RcV.bare}
theorem dC {α:Type} {l:List α} {k:Nat} (hk:k<l.length):l.take (k+1)=l.take k++[l[k]]:=by rw [List.take_add_one,List.getElem?_eq_getElem hk];rfl
end Go.SrcM

namespace Go.SrcM
open Go Go.Fw Go.RatM
structure gX (G:Nat→Prop) (h:Array Obj) (vU vI vP vM vO vF vR vS:Value) (s:aJ):Prop where
 U:RoF G h vU 8 (fQ s.units)
 I:RoF G h vI 6 (rws It.row s.items)
 P:RoF G h vP 1 (jY s.plants)
 M:RoF G h vM 4 (rws Mc.row s.machines)
 O:RoF G h vO 2 (rws OpV.row s.options)
 F:RoF G h vF 1 (rws FbV.row s.forbids)
 R:RoF G h vR 17 (rws RcV.row s.recipes)
 S:RoF G h vS 4 (rws Sw.row s.swaps)
 below:s.sub G h
theorem gX.up {G G':Nat→Prop} {h h':Array Obj} {vU vI vP vM vO vF vR vS:Value} {s:aJ} (H:gX G h vU vI vP vM vO vF vR vS s) (U:Up G h G' h'):gX G' h' vU vI vP vM vO vF vR vS s:=
 ⟨RoF.up U H.U,RoF.up U H.I,RoF.up U H.P,RoF.up U H.M,RoF.up U H.O,RoF.up U H.F,RoF.up U H.R,RoF.up U H.S,H.below.up U⟩
structure Lens (s:aJ):Prop where
 U:s.units.length≤1000000
 I:s.items.length≤1000000
 P:s.plants.length≤1000000
 M:s.machines.length≤1000000
 O:s.options.length≤1000000
 F:s.forbids.length≤1000000
 R:s.recipes.length≤1000000
 S:s.swaps.length≤1000000
 o:∀a∈s.options,a.ch.length≤1000000
 f:∀a∈s.forbids,a.cs.length≤1000000
 r:∀a∈s.recipes,a.cs.length≤1000000∧a.inn.length≤1000000∧a.out.length≤1000000∧a.runs.length≤1000000
theorem gX.tok (vU vI vP vM vO vF vR vS:Value) (s:aJ):TOk (fun F h=>gX F h vU vI vP vM vO vF vR vS s):=⟨fun _ _ _ hs H=>H.up ⟨hs,fun _ _=>rfl⟩,fun _ _ _ H K=>H.up ⟨fun _ x=>x,K.same⟩⟩
end Go.SrcM
namespace Go.Proofs.YtgbeechjghajcaaGreatDoor
open Go Go.Fw Go.NatM Go.RatM Go.SrcM
theorem RoF.sli {G:Nat→Prop} {h:Array Obj} {v:Value} {sz n:Nat} {rows:List (List Value)} (H:RoF G h v sz rows) (e:rows.length=n):∃a c,v=.slice a n c:=by
 obtain ⟨_,_,a,c,rfl,_⟩:=H
 exact ⟨a,c,by rw [e]⟩
theorem RoF.nil (G:Nat→Prop) (h:Array Obj) (sz:Nat):RoF G h (.slice none 0 0) sz []:=⟨fun _ h=>absurd h List.not_mem_nil,⟨Nat.zero_le _,Nat.le_refl _⟩,none,0,rfl,.inl rfl⟩
theorem gX.none (G:Nat→Prop) (h:Array Obj):gX G h (.slice none 0 0) (.slice none 0 0) (.slice none 0 0) (.slice none 0 0) (.slice none 0 0) (.slice none 0 0) (.slice none 0 0) (.slice none 0 0) jU:=
 ⟨RoF.nil _ _ _,RoF.nil _ _ _,RoF.nil _ _ _,RoF.nil _ _ _,RoF.nil _ _ _,RoF.nil _ _ _,RoF.nil _ _ _,RoF.nil _ _ _,fun _ h=>absurd h List.not_mem_nil,fun _ h=>absurd h List.not_mem_nil,fun _ h=>absurd h List.not_mem_nil⟩
abbrev aD:Value:=.slice none 0 0
abbrev zC:Fw.Blk:=.cells 32 [.v (.slice none 0 0),.v (.slice none 0 0),.v (.slice none 0 0),.v (.slice none 0 0),.v (.slice none 0 0),.v (.slice none 0 0),.v (.slice none 0 0),.v (.slice none 0 0)]
abbrev vC (vU vI vP vM vO vF vR vS:Value):Fw.Blk:=.cells 32 [.v vU,.v vI,.v vP,.v vM,.v vO,.v vF,.v vR,.v vS]
abbrev sC (aU:Option Addr) (cU:Nat) (aI:Option Addr) (cI:Nat) (aP:Option Addr) (cP:Nat) (aM:Option Addr) (cM:Nat) (aO:Option Addr) (cO:Nat) (aF:Option Addr) (cF:Nat) (aR:Option Addr) (cR:Nat) (aS:Option Addr) (cS:Nat) (s:aJ):Fw.Blk:=.cells 32 [.v (.slice aU s.units.length cU),.v (.slice aI s.items.length cI),.v (.slice aP s.plants.length cP),.v (.slice aM s.machines.length cM),.v (.slice aO s.options.length cO),.v (.slice aF s.forbids.length cF),.v (.slice aR s.recipes.length cR),.v (.slice aS s.swaps.length cS)]
abbrev sK (vU vI vP vM vO vF vR vS:Value):SV:=.agg [.v vU,.v vI,.v vP,.v vM,.v vO,.v vF,.v vR,.v vS]
abbrev TopT (vU vI vP vM vO vF vR vS:Value) (s:aJ) (F:Nat→Prop) (h:Array Obj):Prop:=gX F h vU vI vP vM vO vF vR vS s
theorem oP {G:Nat→Prop} {h:Array Obj} {vU vI vP vM vO vF vR vS:Value} {s:aJ} (H:gX G h vU vI vP vM vO vF vR vS s):∃aU cU aI cI aP cP aM cM aO cO aF cF aR cR aS cS,vU=.slice aU s.units.length cU∧vI=.slice aI s.items.length cI∧vP=.slice aP s.plants.length cP∧vM=.slice aM s.machines.length cM∧vO=.slice aO s.options.length cO∧vF=.slice aF s.forbids.length cF∧vR=.slice aR s.recipes.length cR∧vS=.slice aS s.swaps.length cS:=by
 obtain ⟨aU,cU,e1⟩:=RoF.sli H.U (cB s.units)
 obtain ⟨aI,cI,e2⟩:=RoF.sli H.I (aG It.row s.items)
 obtain ⟨aP,cP,e3⟩:=RoF.sli H.P (pG s.plants)
 obtain ⟨aM,cM,e4⟩:=RoF.sli H.M (aG Mc.row s.machines)
 obtain ⟨aO,cO,e5⟩:=RoF.sli H.O (aG OpV.row s.options)
 obtain ⟨aF,cF,e6⟩:=RoF.sli H.F (aG FbV.row s.forbids)
 obtain ⟨aR,cR,e7⟩:=RoF.sli H.R (aG RcV.row s.recipes)
 obtain ⟨aS,cS,e8⟩:=RoF.sli H.S (aG Sw.row s.swaps)
 exact ⟨aU,cU,aI,cI,aP,cP,aM,cM,aO,cO,aF,cF,aR,cR,aS,cS,e1,e2,e3,e4,e5,e6,e7,e8⟩
end Go.Proofs.YtgbeechjghajcaaGreatDoor

namespace Go.SynM
open Go Go.Fw Go.RatM Go.SrcM
open Go.Proofs.YtgbeechjghajcaaGreatDoor (Tok)
inductive Rs (α:Type) where
 |ok (a:α) (r:List Tok)
 |bad (r:List Tok) (e:Nat)
abbrev P (α:Type):=List Tok→Rs α
def bnd {α β:Type} (p:P α) (f:α→P β):P β:=fun r=>match p r with
 | .ok a r'=>f a r'
 | .bad r' e=>.bad r' e
def pur {α:Type} (a:α):P α:=fun r=>.ok a r
def failP {α:Type} (e:Nat):P α:=fun r=>.bad r e
theorem aB {α β:Type} {p:P α} {f:α→P β} {r r':List Tok} {a:α} (h:p r=.ok a r'):bnd p f r=f a r':=by unfold bnd;rw [h]
theorem aH {α β:Type} {p:P α} {f:α→P β} {r r':List Tok} {e:Nat} (h:p r=.bad r' e):bnd p f r=.bad r' e:=by unfold bnd;rw [h]
def isT (k:Int) (t:ByteArray):List Tok→Bool
 | []=>false
 |x::_=>decide (x.kind=k∧x.text=t)
def skip (k:Int) (t:ByteArray):P Unit:=fun r=>if isT k t r then .ok () r.tail else .bad r 100
def dP:P ByteArray
 | []=>.bad [] 100
 |x::r=>if x.kind=1 then .ok x.text r else .bad (x::r) 100
def oC:P Int
 | []=>.bad [] 100
 |x::r=>if x.kind=2∧x.n≤1048576 then .ok x.n r else .bad (x::r) 100
abbrev B (l:List UInt8):ByteArray:=⟨l.toArray⟩
abbrev wd (t:List UInt8):P Unit:=skip 1 (B t)
abbrev sg (c:UInt8):P Unit:=skip 3 (B [c])
def lJ:P (Int×Int):=bnd oC fun n=>bnd (sg 47) fun _=>bnd oC fun d=>pur (n,d)
def eT {α:Type} (k:Int) (t:ByteArray) (p:P α):Nat→P (List α)
 |0=>fun r=>if isT k t r then .bad r 2 else .ok [] r
 |m+1=>fun r=>if isT k t r then bnd p (fun x=>bnd (eT k t p m) fun l=>pur (x::l)) r.tail else .ok [] r
def sZ {α:Type} (p:P α) (most:Nat):P (List α):=bnd p fun x=>bnd (eT 3 (B [44]) p (most - 1)) fun l=>pur (x::l)
def lD {α:Type} (k:Int) (t:ByteArray) (a:α) (p:P α):P α:=fun r=>if isT k t r then p r.tail else .ok a r
abbrev gE:List UInt8:=[117,110,105,116]
abbrev iI:List UInt8:=[105,116,101,109]
abbrev fD:List UInt8:=[112,108,97,110,116]
abbrev cE:List UInt8:=[109,97,99,104,105,110,101]
abbrev dA:List UInt8:=[111,112,116,105,111,110]
abbrev dK:List UInt8:=[102,111,114,98,105,100]
abbrev iD:List UInt8:=[109,97,107,101]
abbrev iC:List UInt8:=[115,119,97,112]
abbrev wIn:List UInt8:=[105,110]
abbrev rV:List UInt8:=[109,97,115,115]
abbrev gW:List UInt8:=[107,101,101,112,115]
abbrev wAt:List UInt8:=[97,116]
abbrev oA:List UInt8:=[99,108,101,97,110]
abbrev aAU:List UInt8:=[102,111,114]
abbrev kP:List UInt8:=[98,97,99,107]
abbrev qO:List UInt8:=[102,114,111,109]
abbrev wTo:List UInt8:=[116,111]
abbrev wIf:List UInt8:=[105,102]
abbrev lB:List UInt8:=[111,117,116]
abbrev gQ:List UInt8:=[114,101,119,111,114,107]
abbrev jQ:List UInt8:=[121,105,101,108,100]
abbrev gN:List UInt8:=[119,105,116,104,105,110]
abbrev nY:List UInt8:=[108,101,97,100]
abbrev oD:List UInt8:=[114,117,110]
abbrev e0:ByteArray:=⟨#[]⟩
abbrev hd0:Hd:=⟨none,0⟩
def pP:P Un:=bnd dP fun nm=>bnd (lD 3 (B [61]) (0,0,e0) (bnd lJ fun q=>bnd dP fun o=>pur (q.1,q.2,o))) fun x=>bnd (sg 59) fun _=>pur ⟨nm,x.2.2,x.1,x.2.1,0,zr⟩
def mG:P It:=bnd dP fun nm=>bnd (wd wIn) fun _=>bnd dP fun u=>bnd (wd rV) fun _=>bnd lJ fun q=>bnd (lD 1 (B gW) 0 oC) fun s=>bnd (sg 59) fun _=>pur ⟨nm,u,q.1,q.2,s,0⟩
def oV:P ByteArray:=bnd dP fun nm=>bnd (sg 59) fun _=>pur nm
def pC:P Mc:=bnd dP fun nm=>bnd (wd wAt) fun _=>bnd dP fun p=>bnd (wd oA) fun _=>bnd oC fun c=>bnd (sg 59) fun _=>pur ⟨nm,p,c,0⟩
def nX:P OpV:=bnd dP fun nm=>bnd (sg 123) fun _=>bnd (sZ dP 4) fun l=>bnd (sg 125) fun _=>bnd (sg 59) fun _=>pur ⟨nm,hd0,l⟩
def lA:P Cd:=bnd dP fun o=>bnd (sg 61) fun _=>bnd dP fun c=>pur ⟨o,c,0,0⟩
def qB:P FbV:=bnd (sZ lA 6) fun l=>bnd (sg 59) fun _=>pur ⟨hd0,l⟩
def qQ:P Sw:=bnd dP fun a=>bnd (wd aAU) fun _=>bnd dP fun b=>bnd (sg 59) fun _=>pur ⟨a,b,0,0⟩
def outP:P Am:=bnd lJ fun q=>bnd dP fun u=>bnd dP fun i=>bnd (sg 59) fun _=>pur ⟨q.1,q.2,u,i,false,0,0⟩
def inP:P Am:=bnd (lD 1 (B kP) false (pur true)) fun b=>bnd outP fun a=>pur {a with back:=b}
def yS:P Rn:=bnd dP fun m=>bnd oC fun n=>bnd (sg 59) fun _=>pur ⟨m,n,0⟩
def fT:P RcV:=bnd dP fun it=>bnd (wd wAt) fun _=>bnd dP fun pl=>bnd (wd qO) fun _=>bnd oC fun fr=>bnd (wd wTo) fun _=>bnd oC fun to=>
 bnd (lD 1 (B wIf) [] (sZ lA 6)) fun cs=>bnd (sg 123) fun _=>bnd (eT 1 (B wIn) inP 8) fun ins=>bnd (eT 1 (B lB) outP 8) fun outs=>
 bnd (wd gQ) fun _=>bnd lJ fun rw=>bnd (sg 59) fun _=>bnd (wd jQ) fun _=>bnd lJ fun y=>bnd (wd gN) fun _=>bnd lJ fun t=>
 bnd (sg 59) fun _=>bnd (wd nY) fun _=>bnd oC fun ld=>bnd (sg 59) fun _=>bnd (eT 1 (B oD) yS 8) fun runs=>bnd (sg 125) fun _=>
 pur ⟨it,pl,fr,to,hd0,cs,hd0,ins,hd0,outs,rw.1,rw.2,y.1,y.2,t.1,t.2,ld,hd0,runs,0,0⟩
def brP {α:Type} (t:ByteArray) (n most:Nat) (p q:P α):P α:=fun r=>if isT 1 t r then (if most≤n then .bad r 2 else p r.tail) else q r
def dX (s:aJ):P aJ:=
 brP (B gE) s.units.length 32 (bnd pP fun x=>pur {s with units:=s.units++[x]}) <|
 brP (B iI) s.items.length 32 (bnd mG fun x=>pur {s with items:=s.items++[x]}) <|
 brP (B fD) s.plants.length 8 (bnd oV fun x=>pur {s with plants:=s.plants++[x]}) <|
 brP (B cE) s.machines.length 16 (bnd pC fun x=>pur {s with machines:=s.machines++[x]}) <|
 brP (B dA) s.options.length 6 (bnd nX fun x=>pur {s with options:=s.options++[x]}) <|
 brP (B dK) s.forbids.length 16 (bnd qB fun x=>pur {s with forbids:=s.forbids++[x]}) <|
 brP (B iD) s.recipes.length 64 (bnd fT fun x=>pur {s with recipes:=s.recipes++[x]}) <|
 brP (B iC) s.swaps.length 32 (bnd qQ fun x=>pur {s with swaps:=s.swaps++[x]}) <|
 failP 100
def pF:Nat→aJ→P aJ
 |0,s=>pur s
 |n+1,s=>fun r=>if r=[] then .ok s [] else bnd (dX s) (pF n) r
def noS:aJ:=⟨[],[],[],[],[],[],[],[]⟩
def aAK (r:List Tok):Rs aJ:=pF (r.length+1) noS r
def dI (n:Nat) (e:Nat):List Tok→Int×Nat
 | []=>(n,100)
 |t::_=>(t.pos,e)
end Go.SynM

namespace Go.SynM
open Go Go.Fw Go.RatM Go.SrcM
open Go.Proofs.YtgbeechjghajcaaGreatDoor (Tok)
structure mB {α:Type} (p:P α):Prop where
 suf:∀r a r',p r=.ok a r'→r' <:+ r
 sufB:∀r r' e,p r=.bad r' e→r' <:+ r
 loc:∀A R a,p (A++R)=.ok a R → ∀C,(C.head? = R.head? ∨ C=[])→p (A++C)=.ok a C
 bad:∀A R e,p (A++R)=.bad R e→(∃e',p A=.bad [] e') ∨ ∃a,p A=.ok a []
def gH {α:Type} (p:P α):Prop:=∀A R a,p (A++R)=.ok a R → ∀C,p (A++C)=.ok a C
def aHK {α:Type} (p:P α):Prop:=∀r a r',p r=.ok a r'→r'.length<r.length
theorem iQ {k:Int} {t:ByteArray} {r:List Tok} (h:isT k t r=true):∃x r',r=x::r':=by
 cases r with
 |nil=>cases h
 |cons x r=>exact ⟨x,r,rfl⟩
theorem aVM {k:Int} {t:ByteArray} {r r':List Tok} (h:r.head? = r'.head?):isT k t r=isT k t r':=by
 cases r with
 |nil=>
  cases r' with
  |nil=>rfl
  |cons y s=>cases h
 |cons x s=>
  cases r' with
  |nil=>cases h
  |cons y t=>cases h;rfl
theorem aVQ {k:Int} {t:ByteArray} {r c:List Tok} (h:isT k t r=false) (hc:c.head? = r.head? ∨ c=[]):isT k t c=false:=by
 rcases hc with hc|rfl
 ·rw [aVM hc];exact h
 rfl
theorem qE {α:Type} {a b:List α} (h:a <:+ b):a.length≤b.length:=h.length_le
theorem aDU {r:List Tok} (h:r <:+ []):r=[]:=List.suffix_nil.1 h
theorem xK {A R r1:List Tok} (h1:r1 <:+ A++R) (h2:R <:+ r1):∃A1 A2,A=A1++A2∧r1=A2++R:=by
 obtain ⟨X,hX⟩:=h1
 obtain ⟨Y,rfl⟩:=h2
 rw [←List.append_assoc] at hX
 exact ⟨X,Y,(List.append_cancel_right hX).symm,rfl⟩
theorem nB {α:Type} (a:α):mB (pur a) where
 suf:=fun r b r' h=>by cases h;exact List.suffix_refl _
 sufB:=fun r r' e h=>by cases h
 loc:=fun A R b h C hc=>by
  have h:(Rs.ok a (A++R):Rs α)=.ok b R:=h
  injection h with h1 h2
  have:A=[]:=by
   have:=congrArg List.length h2
   rw [List.length_append] at this
   exact List.eq_nil_of_length_eq_zero (by omega)
  subst this;subst h1;rfl
 bad:=fun A R e h=>by cases h
theorem aPY {α:Type} (a:α):gH (pur a):=fun A R b h C=>by
 have h:(Rs.ok a (A++R):Rs α)=.ok b R:=h
 injection h with h1 h2
 have:A=[]:=by
  have:=congrArg List.length h2
  rw [List.length_append] at this
  exact List.eq_nil_of_length_eq_zero (by omega)
 subst this;subst h1;rfl
theorem aFR {α:Type} {p:P α} (f:Tok→Option α) (e:Nat) (h0:p []=.bad [] e) (h1:∀x r,p (x::r)=match f x with|some a=>.ok a r|none=>.bad (x::r) e):mB p∧gH p∧aHK p:=by
 have hc:gH p:=fun A R a h C=>by
  cases A with
  |nil=>
   cases R with
   |nil=>rw [List.nil_append,h0] at h;cases h
   |cons x r=>
    rw [List.nil_append,h1] at h
    split at h
    ·injection h with _ h2
     have:=congrArg List.length h2
     simp at this
    cases h
  |cons x A=>
   rw [List.cons_append,h1] at h ⊢
   split at h
   ·rename_i b hb
    injection h with h2 h3
    have:A=[]:=by
     have:=congrArg List.length h3
     rw [List.length_append] at this
     exact List.eq_nil_of_length_eq_zero (by omega)
    subst this;subst h2
    rfl
   cases h
 refine ⟨⟨fun r a r' h=>?_,fun r r' e h=>?_,fun A R a h C _=>hc A R a h C,fun A R e' h=>?_⟩,hc,fun r a r' h=>?_⟩
 ·cases r with
  |nil=>rw [h0] at h;cases h
  |cons x r=>
   rw [h1] at h
   split at h
   ·cases h;exact List.suffix_cons _ _
   cases h
 ·cases r with
  |nil=>rw [h0] at h;cases h;exact List.suffix_refl _
  |cons x r=>
   rw [h1] at h
   split at h
   ·cases h
   cases h;exact List.suffix_refl _
 ·cases A with
  |nil=>exact .inl ⟨e,h0⟩
  |cons x A=>
   rw [List.cons_append,h1] at h
   split at h
   ·cases h
   injection h with h2 _
   have:=congrArg List.length h2
   simp at this
   omega
 cases r with
 |nil=>rw [h0] at h;cases h
 |cons x r=>
  rw [h1] at h
  split at h
  ·cases h;simp
  cases h
theorem fI:mB dP∧gH dP∧aHK dP:=aFR (fun x=>if x.kind=1 then some x.text else none) 100 rfl fun x r=>by
 simp only [dP]
 split<;>rfl
theorem tU:mB oC∧gH oC∧aHK oC:=aFR (fun x=>if x.kind=2∧x.n≤1048576 then some x.n else none) 100 rfl fun x r=>by
 simp only [oC]
 split<;>rfl
theorem bI (k:Int) (t:ByteArray):mB (skip k t)∧gH (skip k t)∧aHK (skip k t):=aFR (fun x=>if x.kind=k∧x.text=t then some () else none) 100 rfl fun x r=>by
 simp only [skip,isT,decide_eq_true_eq]
 split<;>rfl
section
variable {α β:Type} {p:P α} {f:α→P β}
theorem jO {r:List Tok} {s:Rs β} (h:bnd p f r=s):(∃a r1,p r=.ok a r1∧f a r1=s) ∨ ∃r1 e,p r=.bad r1 e∧s=.bad r1 e:=by
 unfold bnd at h
 split at h
 ·rename_i a r1 h1
  exact .inl ⟨a,r1,h1,h⟩
 rename_i r1 e h1
 exact .inr ⟨r1,e,h1,h.symm⟩
theorem hZ (hp:mB p) (hf:∀a,mB (f a)):mB (bnd p f) where
 suf:=fun r b r' h=>by
  rcases jO h with ⟨a,r1,h1,h2⟩|⟨r1,e,_,h2⟩
  ·exact ((hf a).suf _ _ _ h2).trans (hp.suf _ _ _ h1)
  cases h2
 sufB:=fun r r' e h=>by
  rcases jO h with ⟨a,r1,h1,h2⟩|⟨r1,e,h1,h2⟩
  ·exact ((hf a).sufB _ _ _ h2).trans (hp.suf _ _ _ h1)
  cases h2;exact hp.sufB _ _ _ h1
 loc:=fun A R b h C hc=>by
  rcases jO h with ⟨a,r1,h1,h2⟩|⟨r1,e,_,h2⟩
  ·obtain ⟨A1,A2,rfl,rfl⟩:=xK (hp.suf _ _ _ h1) ((hf a).suf _ _ _ h2)
   rw [List.append_assoc] at h1 ⊢
   have h3:p (A1++(A2++C))=.ok a (A2++C):=hp.loc A1 _ a h1 _ (by
    cases A2 with
    |nil=>exact hc
    |cons x A2=>exact .inl rfl)
   rw [aB h3]
   exact (hf a).loc A2 R b h2 C hc
  cases h2
 bad:=fun A R e h=>by
  rcases jO h with ⟨a,r1,h1,h2⟩|⟨r1,e,h1,h2⟩
  ·obtain ⟨A1,A2,rfl,rfl⟩:=xK (hp.suf _ _ _ h1) ((hf a).sufB _ _ _ h2)
   rw [List.append_assoc] at h1
   have h3:p (A1++A2)=.ok a A2:=hp.loc A1 _ a h1 _ (by
    cases A2 with
    |nil=>exact .inr rfl
    |cons x A2=>exact .inl rfl)
   rw [aB h3]
   exact (hf a).bad A2 R e h2
  cases h2
  rcases hp.bad A R e h1 with ⟨e',h3⟩|⟨a,h3⟩
  ·exact .inl ⟨e',aH h3⟩
  rw [aB h3]
  cases h4:f a [] with
  |ok b r=>
   rw [aDU ((hf a).suf _ _ _ h4)]
   exact .inr ⟨b,rfl⟩
  |bad r e'=>
   rw [aDU ((hf a).sufB _ _ _ h4)]
   exact .inl ⟨e',rfl⟩
theorem aSO (hp:aHK p) (hf:∀a,mB (f a)):aHK (bnd p f):=fun r b r' h=>by
 rcases jO h with ⟨a,r1,h1,h2⟩|⟨r1,e,_,h2⟩
 ·have:=hp _ _ _ h1
  have:=qE ((hf a).suf _ _ _ h2)
  omega
 cases h2
theorem aOS (hp:mB p) (hf:∀a,aHK (f a)):aHK (bnd p f):=fun r b r' h=>by
 rcases jO h with ⟨a,r1,h1,h2⟩|⟨r1,e,_,h2⟩
 ·have:=hf a _ _ _ h2
  have:=qE (hp.suf _ _ _ h1)
  omega
 cases h2
theorem aMQ (hp:mB p) (hf:∀a,mB (f a)) (hc:gH p) (hd:∀a,gH (f a)):gH (bnd p f):=fun A R b h C=>by
 rcases jO h with ⟨a,r1,h1,h2⟩|⟨r1,e,_,h2⟩
 ·obtain ⟨A1,A2,rfl,rfl⟩:=xK (hp.suf _ _ _ h1) ((hf a).suf _ _ _ h2)
  rw [List.append_assoc] at h1 ⊢
  rw [aB (hc A1 _ a h1 (A2++C))]
  exact hd a A2 R b h2 C
 cases h2
theorem aKV (hp:mB p) (hf:∀a,mB (f a)) (he:∀a,aHK (f a)) (hd:∀a,gH (f a)):gH (bnd p f):=fun A R b h C=>by
 rcases jO h with ⟨a,r1,h1,h2⟩|⟨r1,e,_,h2⟩
 ·obtain ⟨A1,A2,rfl,rfl⟩:=xK (hp.suf _ _ _ h1) ((hf a).suf _ _ _ h2)
  rw [List.append_assoc] at h1 ⊢
  have:=he a _ _ _ h2
  rw [List.length_append] at this
  have h3:p (A1++(A2++C))=.ok a (A2++C):=hp.loc A1 _ a h1 _ (by
   cases A2 with
   |nil=>simp at this
   |cons x A2=>exact .inl rfl)
  rw [aB h3]
  exact hd a A2 R b h2 C
 cases h2
end
theorem nP {α:Type} {k:Int} {t:ByteArray} {a:α} {p:P α} (hp:mB p):mB (lD k t a p) where
 suf:=fun r b r' h=>by
  unfold lD at h
  split at h
  ·rename_i ht
   obtain ⟨x,r,rfl⟩:=iQ ht
   exact (hp.suf _ _ _ h).trans (List.suffix_cons x r)
  cases h;exact List.suffix_refl _
 sufB:=fun r r' e h=>by
  unfold lD at h
  split at h
  ·rename_i ht
   obtain ⟨x,r,rfl⟩:=iQ ht
   exact (hp.sufB _ _ _ h).trans (List.suffix_cons x r)
  cases h
 loc:=fun A R b h C hc=>by
  unfold lD at h ⊢
  split at h
  ·rename_i ht
   cases A with
   |nil=>
    obtain ⟨x,r,rfl⟩:=iQ ht
    have:=qE (hp.suf _ _ _ h)
    simp at this
    omega
   |cons x A=>
    rw [if_pos (show isT k t (x::A++C)=true from ht)]
    exact hp.loc A R b h C hc
  rename_i ht
  injection h with h1 h2
  have:A=[]:=by
   have:=congrArg List.length h2
   rw [List.length_append] at this
   exact List.eq_nil_of_length_eq_zero (by omega)
  subst this;subst h1
  rw [if_neg (by rw [List.nil_append,aVQ (Bool.eq_false_iff.2 ht) hc];exact Bool.false_ne_true)]
  rfl
 bad:=fun A R e h=>by
  unfold lD at h ⊢
  split at h
  ·rename_i ht
   cases A with
   |nil=>
    obtain ⟨x,r,rfl⟩:=iQ ht
    have:=qE (hp.sufB _ _ _ h)
    simp at this
    omega
   |cons x A=>
    rw [if_pos (show isT k t (x::A)=true from ht)]
    exact hp.bad A R e h
  cases h
theorem aTJ {α:Type} {k:Int} {t:ByteArray} {p:P α} {m:Nat}:eT k t p (m+1)=lD k t [] (bnd p fun x=>bnd (eT k t p m) fun l=>pur (x::l)):=rfl
theorem eH {α:Type} {k:Int} {t:ByteArray} {p:P α} (hp:mB p):∀m,mB (eT k t p m)
 |0=>{
  suf:=fun r b r' h=>by
   simp only [eT] at h
   split at h
   ·cases h
   cases h;exact List.suffix_refl _
  sufB:=fun r r' e h=>by
   simp only [eT] at h
   split at h
   ·cases h;exact List.suffix_refl _
   cases h
  loc:=fun A R b h C hc=>by
   simp only [eT] at h ⊢
   split at h
   ·cases h
   rename_i ht
   injection h with h1 h2
   have:A=[]:=by
    have:=congrArg List.length h2
    rw [List.length_append] at this
    exact List.eq_nil_of_length_eq_zero (by omega)
   subst this;subst h1
   rw [if_neg (by rw [List.nil_append,aVQ (Bool.eq_false_iff.2 ht) hc];exact Bool.false_ne_true)]
   rfl
  bad:=fun A R e h=>by
   simp only [eT] at h ⊢
   split at h
   ·injection h with h1 _
    have:A=[]:=by
     have:=congrArg List.length h1
     rw [List.length_append] at this
     exact List.eq_nil_of_length_eq_zero (by omega)
    subst this
    exact .inr ⟨[],rfl⟩
   cases h}
 |m+1=>nP (hZ hp fun x=>hZ (eH hp m) fun l=>nB _)
end Go.SynM

namespace Go.SynM
open Go Go.Fw Go.RatM Go.SrcM
open Go.Proofs.YtgbeechjghajcaaGreatDoor (Tok)
structure Gce {α:Type} (p:P α):Prop where
 g:mB p
 c:gH p
 e:aHK p
section
variable {α β:Type} {p:P α} {f:α→P β}
theorem bV:Gce dP:=⟨fI.1,fI.2.1,fI.2.2⟩
theorem mD:Gce oC:=⟨tU.1,tU.2.1,tU.2.2⟩
theorem bM (k:Int) (t:ByteArray):Gce (skip k t):=⟨(bI k t).1,(bI k t).2.1,(bI k t).2.2⟩
theorem bG (hp:mB p) (hf:∀a,Gce (f a)):Gce (bnd p f):=⟨hZ hp fun a=>(hf a).g,aKV hp (fun a=>(hf a).g) (fun a=>(hf a).e) fun a=>(hf a).c,aOS hp fun a=>(hf a).e⟩
theorem fH {g:α→β} (hp:Gce p):Gce (bnd p fun a=>pur (g a)):=⟨hZ hp.g fun _=>nB _,aMQ hp.g (fun _=>nB _) hp.c fun _=>aPY _,aSO hp.e fun _=>nB _⟩
end
theorem gY:Gce lJ:=bG mD.g fun _=>bG (bM _ _).g fun _=>fH mD
theorem mX {α:Type} {p:P α} (hp:mB p) (m:Nat):mB (sZ p m):=hZ hp fun _=>hZ (eH hp _) fun _=>nB _
theorem aPG:Gce pP:=bG bV.g fun _=>bG (nP (hZ gY.g fun _=>hZ bV.g fun _=>nB _)) fun _=>fH (bM _ _)
theorem aPX:Gce mG:=bG bV.g fun _=>bG (bM _ _).g fun _=>bG bV.g fun _=>bG (bM _ _).g fun _=>bG gY.g fun _=>bG (nP mD.g) fun _=>fH (bM _ _)
theorem aKS:Gce oV:=bG bV.g fun _=>fH (bM _ _)
theorem aQF:Gce pC:=bG bV.g fun _=>bG (bM _ _).g fun _=>bG bV.g fun _=>bG (bM _ _).g fun _=>bG mD.g fun _=>fH (bM _ _)
theorem aQA:Gce nX:=bG bV.g fun _=>bG (bM _ _).g fun _=>bG (mX bV.g 4) fun _=>bG (bM _ _).g fun _=>fH (bM _ _)
theorem sE:Gce lA:=bG bV.g fun _=>bG (bM _ _).g fun _=>fH bV
theorem aPS:Gce qB:=bG (mX sE.g 6) fun _=>fH (bM _ _)
theorem aPB:Gce qQ:=bG bV.g fun _=>bG (bM _ _).g fun _=>bG bV.g fun _=>fH (bM _ _)
theorem aAF:Gce outP:=bG gY.g fun _=>bG bV.g fun _=>bG bV.g fun _=>fH (bM _ _)
theorem in_g:Gce inP:=bG (nP (nB _)) fun _=>fH aAF
theorem aFE:Gce yS:=bG bV.g fun _=>bG mD.g fun _=>fH (bM _ _)
theorem rec_g:Gce fT:=bG bV.g fun _=>bG (bM _ _).g fun _=>bG bV.g fun _=>bG (bM _ _).g fun _=>bG mD.g fun _=>bG (bM _ _).g fun _=>bG mD.g fun _=>
 bG (nP (mX sE.g 6)) fun _=>bG (bM _ _).g fun _=>bG (eH in_g.g 8) fun _=>bG (eH aAF.g 8) fun _=>
 bG (bM _ _).g fun _=>bG gY.g fun _=>bG (bM _ _).g fun _=>bG (bM _ _).g fun _=>bG gY.g fun _=>bG (bM _ _).g fun _=>bG gY.g fun _=>
 bG (bM _ _).g fun _=>bG (bM _ _).g fun _=>bG mD.g fun _=>bG (bM _ _).g fun _=>bG (eH aFE.g 8) fun _=>fH (bM _ _)
theorem vZ {α:Type} {t:ByteArray} {n most:Nat} {p q:P α} (hp:Gce p) (hq:Gce q):Gce (brP t n most p q) where
 g:={
  suf:=fun r b r' h=>by
   unfold brP at h
   split at h
   ·rename_i ht
    obtain ⟨x,r,rfl⟩:=iQ ht
    split at h
    ·cases h
    exact (hp.g.suf _ _ _ h).trans (List.suffix_cons x r)
   exact hq.g.suf _ _ _ h
  sufB:=fun r r' e h=>by
   unfold brP at h
   split at h
   ·rename_i ht
    obtain ⟨x,r,rfl⟩:=iQ ht
    split at h
    ·cases h;exact List.suffix_refl _
    exact (hp.g.sufB _ _ _ h).trans (List.suffix_cons x r)
   exact hq.g.sufB _ _ _ h
  loc:=fun A R b h C hc=>by
   unfold brP at h ⊢
   split at h
   ·rename_i ht
    split at h
    ·cases h
    cases A with
    |nil=>
     obtain ⟨x,r,rfl⟩:=iQ ht
     have:=qE (hp.g.suf _ _ _ h)
     simp at this
     omega
    |cons x A=>
     rw [if_pos (show isT 1 t (x::A++C)=true from ht),if_neg (by assumption)]
     exact hp.g.loc A R b h C hc
   rename_i ht
   cases A with
   |nil=>
    have:=hq.e _ _ _ h
    simp at this
   |cons x A=>
    rw [if_neg (show ¬isT 1 t (x::A++C)=true from ht)]
    exact hq.g.loc (x::A) R b h C hc
  bad:=fun A R e h=>by
   unfold brP at h ⊢
   split at h
   ·rename_i ht
    cases A with
    |nil=>
     rw [if_neg (show ¬isT 1 t []=true from Bool.false_ne_true)]
     cases h4:q [] with
     |ok b r=>rw [aDU (hq.g.suf _ _ _ h4)];exact .inr ⟨b,rfl⟩
     |bad r e'=>rw [aDU (hq.g.sufB _ _ _ h4)];exact .inl ⟨e',rfl⟩
    |cons x A=>
     rw [if_pos (show isT 1 t (x::A)=true from ht)]
     split at h
     ·injection h with h1 _
      have:=congrArg List.length h1
      simp at this
      omega
     rw [if_neg (by assumption)]
     exact hp.g.bad A R e h
   rename_i ht
   cases A with
   |nil=>
    rw [if_neg (show ¬isT 1 t []=true from Bool.false_ne_true)]
    exact hq.g.bad [] R e h
   |cons x A=>
    rw [if_neg (show ¬isT 1 t (x::A)=true from ht)]
    exact hq.g.bad (x::A) R e h}
 c:=fun A R b h C=>by
  unfold brP at h ⊢
  split at h
  ·rename_i ht
   split at h
   ·cases h
   cases A with
   |nil=>
    obtain ⟨x,r,rfl⟩:=iQ ht
    have:=qE (hp.g.suf _ _ _ h)
    simp at this
    omega
   |cons x A=>
    rw [if_pos (show isT 1 t (x::A++C)=true from ht),if_neg (by assumption)]
    exact hp.c A R b h C
  rename_i ht
  cases A with
  |nil=>
   have:=hq.e _ _ _ h
   simp at this
  |cons x A=>
   rw [if_neg (show ¬isT 1 t (x::A++C)=true from ht)]
   exact hq.c (x::A) R b h C
 e:=fun r b r' h=>by
  unfold brP at h
  split at h
  ·rename_i ht
   obtain ⟨x,r,rfl⟩:=iQ ht
   split at h
   ·cases h
   have:=hp.e _ _ _ h
   simp only [List.tail_cons,List.length_cons] at this ⊢
   omega
  exact hq.e _ _ _ h
theorem fail_g {α:Type} (e:Nat):Gce (failP (α:=α) e) where
 g:={
  suf:=fun _ _ _ h=>by cases h
  sufB:=fun r r' e h=>by cases h;exact List.suffix_refl _
  loc:=fun _ _ _ h=>by cases h
  bad:=fun A R e' h=>by
   have h:(Rs.bad (A++R) e:Rs α)=.bad R e':=h
   injection h with h1 _
   have:A=[]:=by
    have:=congrArg List.length h1
    rw [List.length_append] at this
    exact List.eq_nil_of_length_eq_zero (by omega)
   subst this
   exact .inl ⟨_,rfl⟩}
 c:=fun _ _ _ h=>by cases h
 e:=fun _ _ _ h=>by cases h
theorem def_g (s:aJ):Gce (dX s):=vZ (fH aPG)<|vZ (fH aPX)<|vZ (fH aKS)<|vZ (fH aQF)<|vZ (fH aQA)<|vZ (fH aPS)<|vZ (fH rec_g)<|vZ (fH aPB)<|fail_g 100
/-! all definitions -/
theorem aCH:∀(n m:Nat) (s:aJ) (r:List Tok),r.length<n→r.length<m→pF n s r=pF m s r
 |0,_,_,_,h,_=>absurd h (Nat.not_lt_zero _)
 |_+1,0,_,_,_,h=>absurd h (Nat.not_lt_zero _)
 |n+1,m+1,s,r,hn,hm=>by
  simp only [pF]
  split
  ·rfl
  cases hd:dX s r with
  |ok t r1=>
   rw [aB hd,aB hd]
   have:=(def_g s).e _ _ _ hd
   exact aCH n m t r1 (by omega) (by omega)
  |bad r1 e=>rw [aH hd,aH hd]
end Go.SynM

namespace Go.SynM
open Go Go.Fw Go.RatM Go.SrcM
open Go.Proofs.YtgbeechjghajcaaGreatDoor (Tok)
def tw (l:List UInt8):Tok:=⟨1,0,B l,0⟩
def tm (x:ByteArray):Tok:=⟨1,0,x,0⟩
def ts (c:UInt8):Tok:=⟨3,0,B [c],0⟩
def tn (n:Int):Tok:=⟨2,0,e0,n⟩
theorem B_inj {a b:List UInt8}:B a=B b↔a=b:=⟨fun h=>by have:=congrArg (fun x=>x.data.toList) h;simpa using this,fun h=>by rw [h]⟩
section
variable {r:List Tok} {x:ByteArray} {n:Int} {c d:UInt8} {w v:List UInt8}
theorem eZ:dP (tm x::r)=.ok x r:=by unfold dP;exact if_pos rfl
theorem rF (h:n≤1048576):oC (tn n::r)=.ok n r:=by unfold oC;exact if_pos ⟨rfl,h⟩
theorem pW:isT 1 (B w) (tw v::r)=decide (v=w):=by
 show decide ((1:Int)=1∧B v=B w)=_
 simp only [true_and,B_inj]
theorem zH:isT 3 (B [c]) (ts d::r)=decide (d=c):=by
 show decide ((3:Int)=3∧B [d]=B [c])=_
 simp only [true_and,B_inj,List.cons.injEq,and_true]
theorem aOV {t:ByteArray}:isT 1 t (ts d::r)=false:=by unfold isT;exact decide_eq_false fun h=>(by decide:¬(3:Int)=1) h.1
theorem isT_wn {t:ByteArray}:isT 1 t (tn n::r)=false:=by unfold isT;exact decide_eq_false fun h=>(by decide:¬(2:Int)=1) h.1
theorem lL:skip 1 (B w) (tw w::r)=.ok () r:=by unfold skip;rw [pW,decide_eq_true rfl];rfl
theorem fN:skip 3 (B [c]) (ts c::r)=.ok () r:=by unfold skip;rw [zH,decide_eq_true rfl];rfl
theorem aDK {α:Type} {k:Int} {t:ByteArray} {a:α} {p:P α} {y:Tok} (h:isT k t (y::r)=true):lD k t a p (y::r)=p r:=if_pos h
theorem aLB {α:Type} {k:Int} {t:ByteArray} {a:α} {p:P α} (h:isT k t r=false):lD k t a p r=.ok a r:=if_neg (by rw [h];exact Bool.false_ne_true)
theorem sQ {m:Int} (h:n≤1048576) (h':m≤1048576):lJ (tn n::ts 47::tn m::r)=.ok (n,m) r:=by
 simp only [lJ,bnd,rF h,fN,rF h',pur]
end
theorem wD {α β:Type} {k:Int} {t:ByteArray} {p:P β} {T:α→List Tok} {f:α→β} {y:Tok} (hy:∀r,isT k t (y::r)=true):∀(l:List α) (m:Nat) (r:List Tok),(∀x∈l,∀r,p (T x++r)=.ok (f x) r)→l.length≤m→isT k t r=false→eT k t p m ((l.map fun x=>y::T x).flatten++r)=.ok (l.map f) r
 | [],0,r,_,_,hr=>if_neg (by rw [List.map_nil,List.flatten_nil,List.nil_append,hr];exact Bool.false_ne_true)
 | [],m+1,r,_,_,hr=>if_neg (by rw [List.map_nil,List.flatten_nil,List.nil_append,hr];exact Bool.false_ne_true)
 |x::l,0,r,_,h,_=>absurd h (Nat.not_succ_le_zero _)
 |x::l,m+1,r,hp,h,hr=>by
  simp only [List.map_cons,List.flatten_cons,List.append_assoc,List.cons_append]
  simp only [eT,hy,if_true,List.tail_cons]
  rw [aB (hp x (List.mem_cons_self ..) _),aB (wD hy l m r (fun z hz=>hp z (List.mem_cons_of_mem _ hz)) (Nat.le_of_succ_le_succ h) hr)]
  rfl
def gV {α:Type} (T:α→List Tok):List α→List Tok
 | []=>[]
 |x::l=>T x++(l.map fun y=>ts 44::T y).flatten
theorem aKT {α β:Type} {p:P β} {T:α→List Tok} {f:α→β} {l:List α} {m:Nat} {r:List Tok} (hp:∀x∈l,∀r,p (T x++r)=.ok (f x) r) (h0:1≤l.length) (h:l.length≤m) (hr:isT 3 (B [44]) r=false):sZ p m (gV T l++r)=.ok (l.map f) r:=by
 cases l with
 |nil=>cases h0
 |cons x l=>
  simp only [gV,List.append_assoc]
  unfold sZ
  rw [aB (hp x (List.mem_cons_self ..) _),aB (wD (y:=ts 44) (fun r=>by rw [zH];rfl) l (m - 1) r (fun z hz=>hp z (List.mem_cons_of_mem _ hz)) (by simp at h;omega) hr)]
  rfl
/-! the parts as tokens -/
def mJ (u:Un):List Tok:=tw gE::tm u.name::((if u.of_=e0 then [] else [ts 61,tn u.n,ts 47,tn u.d,tm u.of_])++[ts 59])
def mV (i:It):List Tok:=tw iI::tm i.name::tw wIn::tm i.unit::tw rV::tn i.mn::ts 47::tn i.md::((if i.shelf=0 then [] else [tw gW,tn i.shelf])++[ts 59])
def lY (x:ByteArray):List Tok:=[tw fD,tm x,ts 59]
def qR (m:Mc):List Tok:=[tw cE,tm m.name,tw wAt,tm m.plant,tw oA,tn m.clean,ts 59]
def nZ (o:OpV):List Tok:=tw dA::tm o.name::ts 123::(gV (fun c=>[tm c]) o.ch++[ts 125,ts 59])
def iU (c:Cd):List Tok:=[tm c.opt,ts 61,tm c.ch]
def qD (f:FbV):List Tok:=tw dK::(gV iU f.cs++[ts 59])
def amT (a:Am):List Tok:=[tn a.n,ts 47,tn a.d,tm a.unit,tm a.item,ts 59]
def inT (a:Am):List Tok:=(if a.back then [tw kP] else [])++amT a
def runT (x:Rn):List Tok:=[tm x.mach,tn x.slots,ts 59]
def qX (x:Sw):List Tok:=[tw iC,tm x.a,tw aAU,tm x.b,ts 59]
def uK (r:RcV):List Tok:=tw iD::tm r.item::tw wAt::tm r.plant::tw qO::tn r.fr::tw wTo::tn r.to::((if r.cs=[] then [] else tw wIf::gV iU r.cs)++ts 123 ::
 ((r.inn.map fun a=>tw wIn::inT a).flatten++((r.out.map fun a=>tw lB::amT a).flatten ++
 tw gQ::tn r.rwN::ts 47::tn r.rwD::ts 59::tw jQ::tn r.yN::ts 47::tn r.yD::tw gN::tn r.tN::ts 47::tn r.tD::ts 59::tw nY::tn r.lead::ts 59 ::
 ((r.runs.map fun x=>tw oD::runT x).flatten++[ts 125]))))
def jI (s:aJ):List Tok:=(s.units.map mJ).flatten++((s.items.map mV).flatten++((s.plants.map lY).flatten++((s.machines.map qR).flatten++((s.options.map nZ).flatten++((s.forbids.map qD).flatten++((s.recipes.map uK).flatten++(s.swaps.map qX).flatten))))))
end Go.SynM
namespace Go.SrcM
open Go Go.Fw Go.RatM Go.SynM
/-! without numbers of names -/
def unU (u:Un):Un:=⟨u.name,u.of_,u.n,u.d,0,zr⟩
def It.un0 (i:It):It:={i with un:=0}
def Mc.un (m:Mc):Mc:={m with pn:=0}
def OpV.un (o:OpV):OpV:=⟨o.name,hd0,o.ch⟩
def Cd.un (c:Cd):Cd:=⟨c.opt,c.ch,0,0⟩
def FbV.un (f:FbV):FbV:=⟨hd0,f.cs.map Cd.un⟩
def Am.un0 (a:Am):Am:=⟨a.n,a.d,a.unit,a.item,a.back,0,0⟩
def Rn.un (x:Rn):Rn:=⟨x.mach,x.slots,0⟩
def Sw.un (x:Sw):Sw:=⟨x.a,x.b,0,0⟩
def RcV.un (r:RcV):RcV:=⟨r.item,r.plant,r.fr,r.to,hd0,r.cs.map Cd.un,hd0,r.inn.map Am.un0,hd0,r.out.map Am.un0,r.rwN,r.rwD,r.yN,r.yD,r.tN,r.tD,r.lead,hd0,r.runs.map Rn.un,0,0⟩
def aJ.un (s:aJ):aJ:=⟨s.units.map unU,s.items.map It.un0,s.plants,s.machines.map Mc.un,s.options.map OpV.un,s.forbids.map FbV.un,s.recipes.map RcV.un,s.swaps.map Sw.un⟩
/-! what can be printed -/
abbrev okV (n:Int):Prop:=0≤n∧n≤1048576
section
variable (N:ByteArray→Prop)
def aHV (u:Un):Prop:=N u.name∧((u.of_=e0∧u.n=0∧u.d=0)∨(u.of_≠e0∧N u.of_∧okV u.n∧okV u.d))
def It.good (i:It):Prop:=N i.name∧N i.unit∧okV i.mn∧okV i.md∧okV i.shelf
def Mc.good (m:Mc):Prop:=N m.name∧N m.plant∧okV m.clean
def OpV.good (o:OpV):Prop:=N o.name∧(1≤o.ch.length∧o.ch.length≤4) ∧ ∀c∈o.ch,N c
def Cd.good (c:Cd):Prop:=N c.opt∧N c.ch
def FbV.good (f:FbV):Prop:=(1≤f.cs.length∧f.cs.length≤6) ∧ ∀c∈f.cs,c.good N
def Am.good (a:Am):Prop:=okV a.n∧okV a.d∧N a.unit∧N a.item
def Rn.good (x:Rn):Prop:=N x.mach∧okV x.slots
def Sw.good (x:Sw):Prop:=N x.a∧N x.b
structure RcV.good (r:RcV):Prop where
 it:N r.item
 pl:N r.plant
 fr:okV r.fr
 to:okV r.to
 cl:r.cs.length≤6
 cs:∀c∈r.cs,c.good N
 il:r.inn.length≤8
 inn:∀a∈r.inn,a.good N
 ol:r.out.length≤8
 out:∀a∈r.out,a.good N∧a.back=false
 rw1:okV r.rwN
 rw2:okV r.rwD
 y1:okV r.yN
 y2:okV r.yD
 t1:okV r.tN
 t2:okV r.tD
 ld:okV r.lead
 rl:r.runs.length≤8
 runs:∀x∈r.runs,x.good N
structure aJ.good (s:aJ):Prop where
 lU:s.units.length≤32
 U:∀x∈s.units,aHV N x
 lI:s.items.length≤32
 I:∀x∈s.items,x.good N
 lP:s.plants.length≤8
 P:∀x∈s.plants,N x
 lM:s.machines.length≤16
 M:∀x∈s.machines,x.good N
 lO:s.options.length≤6
 O:∀x∈s.options,x.good N
 lF:s.forbids.length≤16
 F:∀x∈s.forbids,x.good N
 lR:s.recipes.length≤64
 R:∀x∈s.recipes,x.good N
 lS:s.swaps.length≤32
 S:∀x∈s.swaps,x.good N
end
end Go.SrcM
namespace Go.SynM
open Go Go.Fw Go.RatM Go.SrcM
open Go.Proofs.YtgbeechjghajcaaGreatDoor (Tok)
section
variable {N:ByteArray→Prop} {r:List Tok}
theorem aUS {u:Un} (h:aHV N u):pP ((mJ u).tail++r)=.ok (unU u) r:=by
 unfold pP mJ
 simp only [List.tail_cons,List.cons_append]
 rw [aB eZ]
 obtain ⟨_,⟨h1,h2,h3⟩|⟨h1,_,h2,h3⟩⟩:=h
 ·rw [if_pos h1]
  simp only [List.nil_append,List.cons_append]
  rw [aB (aLB (by rw [zH];rfl)),aB fN]
  simp only [pur,unU,h1,h2,h3]
 rw [if_neg h1]
 simp only [List.cons_append,List.nil_append]
 rw [aB (r':=ts 59::r) (a:=(u.n,u.d,u.of_)) (by rw [aDK (by rw [zH];rfl),aB (sQ h2.2 h3.2),aB eZ];rfl),aB fN]
 rfl
theorem aWO {i:It} (h:i.good N):mG ((mV i).tail++r)=.ok i.un0 r:=by
 obtain ⟨_,_,h1,h2,h3⟩:=h
 unfold mG mV
 simp only [List.tail_cons,List.cons_append]
 rw [aB eZ,aB lL,aB eZ,aB lL,aB (sQ h1.2 h2.2)]
 by_cases h0:i.shelf=0
 ·rw [if_pos h0]
  simp only [List.nil_append,List.cons_append]
  rw [aB (aLB aOV),aB fN]
  simp only [pur,It.un0,h0]
 rw [if_neg h0]
 simp only [List.cons_append,List.nil_append]
 rw [aB (r':=ts 59::r) (a:=i.shelf) (by rw [aDK (by rw [pW];rfl),rF h3.2]),aB fN]
 rfl
theorem aTZ {x:ByteArray}:oV ((lY x).tail++r)=.ok x r:=by
 unfold oV lY
 simp only [List.tail_cons,List.cons_append,List.nil_append]
 rw [aB eZ,aB fN];rfl
theorem aWJ {m:Mc} (h:m.good N):pC ((qR m).tail++r)=.ok m.un r:=by
 unfold pC qR
 simp only [List.tail_cons,List.cons_append,List.nil_append]
 rw [aB eZ,aB lL,aB eZ,aB lL,aB (rF h.2.2.2),aB fN];rfl
theorem aVH {o:OpV} (h:o.good N):nX ((nZ o).tail++r)=.ok o.un r:=by
 unfold nX nZ
 simp only [List.tail_cons,List.cons_append,List.append_assoc,List.nil_append]
 rw [aB eZ,aB fN,aB (aKT (f:=fun x=>x) (fun x _ r=>eZ) h.2.1.1 h.2.1.2 (by rw [zH];rfl)),aB fN,aB fN,List.map_id'];rfl
theorem aLJ {c:Cd}:lA (iU c++r)=.ok c.un r:=by
 unfold lA iU
 simp only [List.cons_append,List.nil_append]
 rw [aB eZ,aB fN,aB eZ];rfl
theorem aVG {f:FbV} (h:f.good N):qB ((qD f).tail++r)=.ok f.un r:=by
 unfold qB qD
 simp only [List.tail_cons,List.append_assoc,List.cons_append,List.nil_append]
 rw [aB (aKT (f:=Cd.un) (fun x _ r=>aLJ) h.1.1 h.1.2 (by rw [zH];rfl)),aB fN];rfl
theorem aVF {x:Sw}:qQ ((qX x).tail++r)=.ok x.un r:=by
 unfold qQ qX
 simp only [List.tail_cons,List.cons_append,List.nil_append]
 rw [aB eZ,aB lL,aB eZ,aB fN];rfl
theorem aLE {a:Am} (h:a.good N):outP (amT a++r)=.ok {a.un0 with back:=false} r:=by
 unfold outP amT
 simp only [List.cons_append,List.nil_append]
 rw [aB (sQ h.1.2 h.2.1.2),aB eZ,aB eZ,aB fN];rfl
theorem in_fwd {a:Am} (h:a.good N):inP (inT a++r)=.ok a.un0 r:=by
 unfold inP inT
 by_cases hb:a.back=true
 ·rw [if_pos hb]
  simp only [List.cons_append,List.nil_append]
  rw [aB (r':=amT a++r) (a:=true) (by rw [aDK (by rw [pW];rfl)];rfl),aB (aLE h)]
  simp only [pur,Am.un0,hb]
 rw [if_neg hb]
 simp only [List.nil_append]
 rw [aB (r':=amT a++r) (a:=false) (aLB (by unfold amT;exact isT_wn)),aB (aLE h)]
 simp only [pur,Am.un0,Bool.not_eq_true] at hb ⊢
 rw [hb]
theorem run_fwd {x:Rn} (h:x.good N):yS (runT x++r)=.ok x.un r:=by
 unfold yS runT
 simp only [List.cons_append,List.nil_append]
 rw [aB eZ,aB (rF h.2.2),aB fN];rfl
end
end Go.SynM

namespace Go.SynM
open Go Go.Fw Go.RatM Go.SrcM
open Go.Proofs.YtgbeechjghajcaaGreatDoor (Tok)
section
variable {N:ByteArray→Prop} {r:List Tok}
theorem aVP {α:Type} {T:α→List Tok} {k:Int} {t:ByteArray} {y:Tok} {l:List α} (hy:∀r,isT k t (y::r)=false) (hr:isT k t r=false):isT k t ((l.map fun x=>y::T x).flatten++r)=false:=by
 cases l with
 |nil=>exact hr
 |cons x l=>exact hy _
theorem rec_fwd {x:RcV} (h:x.good N):fT ((uK x).tail++r)=.ok x.un r:=by
 unfold fT uK
 simp only [List.tail_cons,List.cons_append,List.append_assoc,List.nil_append]
 rw [aB eZ,aB lL,aB eZ,aB lL,aB (rF h.fr.2),aB lL,aB (rF h.to.2)]
 obtain ⟨R,hR⟩:∃R,R=ts 123::((List.map (fun a=>tw wIn::inT a) x.inn).flatten++((List.map (fun a=>tw lB::amT a) x.out).flatten++tw gQ::tn x.rwN::ts 47::tn x.rwD::ts 59::tw jQ::tn x.yN::ts 47::tn x.yD::tw gN::tn x.tN::ts 47::tn x.tD::ts 59::tw nY::tn x.lead::ts 59::((List.map (fun a=>tw oD::runT a) x.runs).flatten++ts 125::r))):=⟨_,rfl⟩
 rw [←hR]
 have e1:lD 1 (B wIf) [] (sZ lA 6) ((if x.cs=[] then [] else tw wIf::gV iU x.cs)++R)=.ok (x.cs.map Cd.un) R:=by
  by_cases h0:x.cs=[]
  ·rw [if_pos h0,h0]
   exact aLB (by rw [hR];exact aOV)
  rw [if_neg h0]
  simp only [List.cons_append]
  rw [aDK (by rw [pW];rfl)]
  exact aKT (fun x _ r=>aLJ) (List.length_pos_iff.2 h0) h.cl (by rw [hR,zH];rfl)
 rw [aB e1,hR,aB fN,
  aB (wD (f:=Am.un0) (fun r=>by rw [pW];rfl) x.inn 8 _ (fun a ha r=>in_fwd (h.inn a ha)) h.il (aVP (fun r=>by rw [pW];rfl) (by rw [pW];rfl))),
  aB (wD (f:=Am.un0) (fun r=>by rw [pW];rfl) x.out 8 _ (fun a ha r=>by rw [aLE (h.out a ha).1];simp only [Am.un0,(h.out a ha).2]) h.ol (by rw [pW];rfl)),
  aB lL,aB (sQ h.rw1.2 h.rw2.2),aB fN,aB lL,aB (sQ h.y1.2 h.y2.2),aB lL,aB (sQ h.t1.2 h.t2.2),aB fN,aB lL,aB (rF h.ld.2),aB fN,
  aB (wD (f:=Rn.un) (fun r=>by rw [pW];rfl) x.runs 8 _ (fun a ha r=>run_fwd (h.runs a ha)) h.rl aOV),aB fN]
 rfl
/-! the definitions -/
def kV (s:aJ) (r:List Tok):Rs aJ:=pF (r.length+1) s r
theorem aQI {s t:aJ} {A:List Tok} (h0:A ≠ []) (h:dX s (A++r)=.ok t r):kV s (A++r)=kV t r:=by
 unfold kV
 show pF (_+1) _ _=_
 simp only [pF]
 rw [if_neg (by simp [h0]),aB h]
 have hA:=List.length_pos_iff.2 h0
 exact aCH (A++r).length (r.length+1) t r (by rw [List.length_append];omega) (Nat.lt_succ_self _)
theorem kU {α:Type} {T:α→List Tok} {g:aJ→α→aJ} (h0:∀x,T x ≠ []):∀(l:List α) (s:aJ),(∀(m:List α) (x:α) (n:List α),l=m++x::n → ∀r,dX (m.foldl g s) (T x++r)=.ok (g (m.foldl g s) x) r)→kV s ((l.map T).flatten++r)=kV (l.foldl g s) r
 | [],_,_=>rfl
 |x::l,s,h=>by
  simp only [List.map_cons,List.flatten_cons,List.append_assoc,List.foldl_cons]
  refine (aQI (s:=s) (h0 x) (h [] x l rfl _)).trans ?_
  exact kU h0 l (g s x) fun m y n e r=>h (x::m) y n (by rw [e];rfl) r
theorem wG {α:Type} {w:List UInt8} {n most:Nat} {p q:P α} (h:n<most):brP (B w) n most p q (tw w::r)=p r:=by
 unfold brP
 rw [if_pos (by rw [pW];exact decide_eq_true rfl),if_neg (Nat.not_le.2 h)];rfl
theorem iJ {α:Type} {w v:List UInt8} {n most:Nat} {p q:P α} (h:v≠w):brP (B w) n most p q (tw v::r)=q (tw v::r):=by
 unfold brP
 rw [if_neg (by rw [pW,decide_eq_false h];exact Bool.false_ne_true)]
theorem kS {α:Type} {g:aJ→α→aJ} {n:aJ→Nat} (hg:∀s x,n (g s x)=n s+1):∀(l:List α) (s:aJ),n (l.foldl g s)=n s+l.length
 | [],_=>rfl
 |x::l,s=>by rw [List.foldl_cons,kS hg l,hg,List.length_cons];omega
theorem rN {α:Type} {l m n:List α} {x:α} (e:l=m++x::n):m.length<l.length:=by rw [e,List.length_append,List.length_cons];omega
theorem xL {α:Type} {l m n:List α} {x:α} (e:l=m++x::n):x∈l:=by rw [e];simp
def gU (s:aJ) (x:Un):aJ:={s with units:=s.units++[unU x]}
def gI (s:aJ) (x:It):aJ:={s with items:=s.items++[x.un0]}
def gP (s:aJ) (x:ByteArray):aJ:={s with plants:=s.plants++[x]}
def gM (s:aJ) (x:Mc):aJ:={s with machines:=s.machines++[x.un]}
def gO (s:aJ) (x:OpV):aJ:={s with options:=s.options++[x.un]}
def gF (s:aJ) (x:FbV):aJ:={s with forbids:=s.forbids++[x.un]}
def gR (s:aJ) (x:RcV):aJ:={s with recipes:=s.recipes++[x.un]}
def gS (s:aJ) (x:Sw):aJ:={s with swaps:=s.swaps++[x.un]}
theorem aQU {s:aJ} {l:List Un} (h:∀x∈l,aHV N x) (hl:s.units.length+l.length≤32):kV s ((l.map mJ).flatten++r)=kV (l.foldl gU s) r:=
 kU (fun x=>List.cons_ne_nil _ _) l s fun m x n e r=>by
  have:=rN e
  have hm:=kS (g:=gU) (n:=fun s=>s.units.length) (fun s x=>by simp [gU]) m s
  show dX _ (tw gE::((mJ x).tail++r))=_
  unfold dX
  rw [wG (by omega),aB (aUS (h x (xL e)))];rfl
theorem aOU {s:aJ} {l:List It} (h:∀x∈l,x.good N) (hl:s.items.length+l.length≤32):kV s ((l.map mV).flatten++r)=kV (l.foldl gI s) r:=
 kU (fun x=>List.cons_ne_nil _ _) l s fun m x n e r=>by
  have:=rN e
  have hm:=kS (g:=gI) (n:=fun s=>s.items.length) (fun s x=>by simp [gI]) m s
  show dX _ (tw iI::((mV x).tail++r))=_
  unfold dX
  rw [iJ (by decide),wG (by omega),aB (aWO (h x (xL e)))];rfl
theorem aMZ {s:aJ} {l:List ByteArray} (hl:s.plants.length+l.length≤8):kV s ((l.map lY).flatten++r)=kV (l.foldl gP s) r:=
 kU (fun x=>List.cons_ne_nil _ _) l s fun m x n e r=>by
  have:=rN e
  have hm:=kS (g:=gP) (n:=fun s=>s.plants.length) (fun s x=>by simp [gP]) m s
  show dX _ (tw fD::((lY x).tail++r))=_
  unfold dX
  rw [iJ (by decide),iJ (by decide),wG (by omega),aB aTZ];rfl
theorem aPO {s:aJ} {l:List Mc} (h:∀x∈l,x.good N) (hl:s.machines.length+l.length≤16):kV s ((l.map qR).flatten++r)=kV (l.foldl gM s) r:=
 kU (fun x=>List.cons_ne_nil _ _) l s fun m x n e r=>by
  have:=rN e
  have hm:=kS (g:=gM) (n:=fun s=>s.machines.length) (fun s x=>by simp [gM]) m s
  show dX _ (tw cE::((qR x).tail++r))=_
  unfold dX
  rw [iJ (by decide),iJ (by decide),iJ (by decide),wG (by omega),aB (aWJ (h x (xL e)))];rfl
theorem aUD {s:aJ} {l:List OpV} (h:∀x∈l,x.good N) (hl:s.options.length+l.length≤6):kV s ((l.map nZ).flatten++r)=kV (l.foldl gO s) r:=
 kU (fun x=>List.cons_ne_nil _ _) l s fun m x n e r=>by
  have:=rN e
  have hm:=kS (g:=gO) (n:=fun s=>s.options.length) (fun s x=>by simp [gO]) m s
  show dX _ (tw dA::((nZ x).tail++r))=_
  unfold dX
  rw [iJ (by decide),iJ (by decide),iJ (by decide),iJ (by decide),wG (by omega),aB (aVH (h x (xL e)))];rfl
theorem aPQ {s:aJ} {l:List FbV} (h:∀x∈l,x.good N) (hl:s.forbids.length+l.length≤16):kV s ((l.map qD).flatten++r)=kV (l.foldl gF s) r:=
 kU (fun x=>List.cons_ne_nil _ _) l s fun m x n e r=>by
  have:=rN e
  have hm:=kS (g:=gF) (n:=fun s=>s.forbids.length) (fun s x=>by simp [gF]) m s
  show dX _ (tw dK::((qD x).tail++r))=_
  unfold dX
  rw [iJ (by decide),iJ (by decide),iJ (by decide),iJ (by decide),iJ (by decide),wG (by omega),aB (aVG (h x (xL e)))];rfl
theorem aUL {s:aJ} {l:List RcV} (h:∀x∈l,x.good N) (hl:s.recipes.length+l.length≤64):kV s ((l.map uK).flatten++r)=kV (l.foldl gR s) r:=
 kU (fun x=>List.cons_ne_nil _ _) l s fun m x n e r=>by
  have:=rN e
  have hm:=kS (g:=gR) (n:=fun s=>s.recipes.length) (fun s x=>by simp [gR]) m s
  show dX _ (tw iD::((uK x).tail++r))=_
  unfold dX
  rw [iJ (by decide),iJ (by decide),iJ (by decide),iJ (by decide),iJ (by decide),iJ (by decide),wG (by omega),aB (rec_fwd (h x (xL e)))];rfl
theorem aQR {s:aJ} {l:List Sw} (hl:s.swaps.length+l.length≤32):kV s ((l.map qX).flatten++r)=kV (l.foldl gS s) r:=
 kU (fun x=>List.cons_ne_nil _ _) l s fun m x n e r=>by
  have:=rN e
  have hm:=kS (g:=gS) (n:=fun s=>s.swaps.length) (fun s x=>by simp [gS]) m s
  show dX _ (tw iC::((qX x).tail++r))=_
  unfold dX
  rw [iJ (by decide),iJ (by decide),iJ (by decide),iJ (by decide),iJ (by decide),iJ (by decide),iJ (by decide),wG (by omega),aB aVF];rfl
theorem foldU:∀(l:List Un) (s:aJ),l.foldl gU s = {s with units:=s.units++l.map unU}
 | [],s=>by simp
 |x::l,s=>by rw [List.foldl_cons,foldU l];simp [gU]
theorem foldI:∀(l:List It) (s:aJ),l.foldl gI s = {s with items:=s.items++l.map It.un0}
 | [],s=>by simp
 |x::l,s=>by rw [List.foldl_cons,foldI l];simp [gI]
theorem foldP:∀(l:List ByteArray) (s:aJ),l.foldl gP s = {s with plants:=s.plants++l}
 | [],s=>by simp
 |x::l,s=>by rw [List.foldl_cons,foldP l];simp [gP]
theorem foldM:∀(l:List Mc) (s:aJ),l.foldl gM s = {s with machines:=s.machines++l.map Mc.un}
 | [],s=>by simp
 |x::l,s=>by rw [List.foldl_cons,foldM l];simp [gM]
theorem foldO:∀(l:List OpV) (s:aJ),l.foldl gO s = {s with options:=s.options++l.map OpV.un}
 | [],s=>by simp
 |x::l,s=>by rw [List.foldl_cons,foldO l];simp [gO]
theorem foldF:∀(l:List FbV) (s:aJ),l.foldl gF s = {s with forbids:=s.forbids++l.map FbV.un}
 | [],s=>by simp
 |x::l,s=>by rw [List.foldl_cons,foldF l];simp [gF]
theorem foldR:∀(l:List RcV) (s:aJ),l.foldl gR s = {s with recipes:=s.recipes++l.map RcV.un}
 | [],s=>by simp
 |x::l,s=>by rw [List.foldl_cons,foldR l];simp [gR]
theorem foldS:∀(l:List Sw) (s:aJ),l.foldl gS s = {s with swaps:=s.swaps++l.map Sw.un}
 | [],s=>by simp
 |x::l,s=>by rw [List.foldl_cons,foldS l];simp [gS]
theorem aVO {s:aJ} (h:s.good N):aAK (jI s)=.ok s.un []:=by
 show kV noS (jI s)=_
 unfold jI
 rw [aQU h.U (by simpa [noS] using h.lU),foldU,aOU h.I (by simpa [noS] using h.lI),foldI,aMZ (by simpa [noS] using h.lP),foldP,aPO h.M (by simpa [noS] using h.lM),foldM,aUD h.O (by simpa [noS] using h.lO),foldO,aPQ h.F (by simpa [noS] using h.lF),foldF,aUL h.R (by simpa [noS] using h.lR),foldR]
 have:=aQR (r:=[]) (s:={noS with units:=s.units.map unU,items:=s.items.map It.un0,plants:=s.plants,machines:=s.machines.map Mc.un,options:=s.options.map OpV.un,forbids:=s.forbids.map FbV.un,recipes:=s.recipes.map RcV.un}) (l:=s.swaps) (by simpa [noS] using h.lS)
 rw [List.append_nil,foldS] at this
 simp only [noS,List.nil_append] at this ⊢
 rw [this];rfl
end
end Go.SynM

namespace Go.SynM
open Go Go.Fw Go.RatM Go.SrcM
open Go.Proofs.YtgbeechjghajcaaGreatDoor (Tok)
section
variable {N:ByteArray→Prop}
structure OkT (N:ByteArray→Prop) (t:Tok):Prop where
 nm:t.kind=1→N t.text
 num:t.kind=2→0≤t.n
abbrev AllV (N:ByteArray→Prop) (r:List Tok):Prop:=∀t∈r,OkT N t
theorem AllV.suf {r r':List Tok} (h:AllV N r) (hs:r' <:+ r):AllV N r':=fun t ht=>h t (hs.subset ht)
def fJ (N:ByteArray→Prop) {α:Type} (p:P α) (Q:α→Prop):Prop:=∀r a r',AllV N r→p r=.ok a r'→Q a
theorem bA {α β:Type} {p:P α} {f:α→P β} {Q:α→Prop} {R:β→Prop} (hg:mB p) (h1:fJ N p Q) (h2:∀a,Q a→fJ N (f a) R):fJ N (bnd p f) R:=fun r b r' hr h=>by
 rcases jO h with ⟨a,r1,e1,e2⟩|⟨r1,e,_,e2⟩
 ·exact h2 a (h1 r a r1 hr e1) r1 b r' (hr.suf (hg.suf _ _ _ e1)) e2
 cases e2
theorem fW {α:Type} {a:α} {Q:α→Prop} (h:Q a):fJ N (pur a) Q:=fun r b r' _ e=>by
 have e:(Rs.ok a r:Rs α)=.ok b r':=e
 cases e;exact h
theorem gL:fJ N dP N:=fun r a r' hr h=>by
 cases r with
 |nil=>cases h
 |cons x r=>
  simp only [dP] at h
  split at h
  ·rename_i hk
   cases h
   exact (hr x (List.mem_cons_self ..)).nm hk
  cases h
theorem uX:fJ N oC okV:=fun r a r' hr h=>by
 cases r with
 |nil=>cases h
 |cons x r=>
  simp only [oC] at h
  split at h
  ·rename_i hk
   cases h
   exact ⟨(hr x (List.mem_cons_self ..)).num hk.1,hk.2⟩
  cases h
theorem cQ {k:Int} {t:ByteArray}:fJ N (skip k t) (fun _=>True):=fun _ _ _ _ _=>trivial
theorem xY:fJ N lJ (fun q=>okV q.1∧okV q.2):=bA mD.g uX fun n hn=>bA (bM _ _).g cQ fun _ _=>bA mD.g uX fun d hd=>fW ⟨hn,hd⟩
theorem aKU {α:Type} {k:Int} {t:ByteArray} {a:α} {p:P α} {Q:α→Prop} (h:Q a) (hp:fJ N p Q):fJ N (lD k t a p) Q:=fun r b r' hr e=>by
 unfold lD at e
 split at e
 ·exact hp _ _ _ (hr.suf (List.tail_suffix r)) e
 cases e;exact h
theorem aAG {α:Type} {k:Int} {t:ByteArray} {p:P α} {Q:α→Prop} (hg:mB p) (hp:fJ N p Q):∀m,fJ N (eT k t p m) (fun l=>l.length≤m ∧ ∀x∈l,Q x)
 |0=>fun r b r' hr e=>by
  simp only [eT] at e
  split at e
  ·cases e
  cases e;exact ⟨Nat.le_refl _,fun x hx=>nomatch hx⟩
 |m+1=>by
  rw [aTJ]
  exact aKU ⟨Nat.zero_le _,fun x hx=>nomatch hx⟩ (bA hg hp fun x hx=>bA (eH hg m) (aAG hg hp m) fun l hl=>fW ⟨Nat.succ_le_succ hl.1,fun y hy=>(List.mem_cons.1 hy).elim (fun e=>e▸hx) (hl.2 y)⟩)
theorem aPD {α:Type} {p:P α} {Q:α→Prop} (hg:mB p) (hp:fJ N p Q) {m:Nat} (hm:1≤m):fJ N (sZ p m) (fun l=>(1≤l.length∧l.length≤m) ∧ ∀x∈l,Q x):=
 bA hg hp fun x hx=>bA (eH hg _) (aAG hg hp _) fun l hl=>fW ⟨⟨Nat.succ_le_succ (Nat.zero_le _),by have:=hl.1;rw [List.length_cons];omega⟩,fun y hy=>(List.mem_cons.1 hy).elim (fun e=>e▸hx) (hl.2 y)⟩
theorem aCL {α:Type} {t:ByteArray} {n most:Nat} {p q:P α} {Q:α→Prop} (hp:n<most→fJ N p Q) (hq:fJ N q Q):fJ N (brP t n most p q) Q:=fun r b r' hr e=>by
 unfold brP at e
 split at e
 ·split at e
  ·cases e
  exact hp (by omega) _ _ _ (hr.suf (List.tail_suffix r)) e
 exact hq _ _ _ hr e
theorem gv_fail {α:Type} {e:Nat} {Q:α→Prop}:fJ N (failP e) Q:=fun _ _ _ _ h=>by cases h
theorem gv_mono {α:Type} {p:P α} {Q R:α→Prop} (h:fJ N p Q) (hm:∀a,Q a→R a):fJ N p R:=fun r a r' hr e=>hm a (h r a r' hr e)
/-! the parts -/
theorem gv_unit (hN:¬N e0):fJ N pP (fun u=>aHV N u∧unU u=u):=
 bA bV.g gL fun nm hn=>bA (nP (hZ gY.g fun _=>hZ bV.g fun _=>nB _))
  (Q:=fun x=>(x.2.2=e0∧x.1=0∧x.2.1=0)∨(x.2.2≠e0∧N x.2.2∧okV x.1∧okV x.2.1))
  (aKU (.inl ⟨rfl,rfl,rfl⟩) (bA gY.g xY fun q hq=>bA bV.g gL fun o ho=>fW (.inr ⟨fun e=>hN (e▸ho),ho,hq.1,hq.2⟩)))
  fun x hx=>bA (bM _ _).g cQ fun _ _=>fW ⟨⟨hn,hx⟩,rfl⟩
theorem gv_item:fJ N mG (fun i=>i.good N∧i.un0=i):=
 bA bV.g gL fun _ h1=>bA (bM _ _).g cQ fun _ _=>bA bV.g gL fun _ h2=>bA (bM _ _).g cQ fun _ _=>bA gY.g xY fun _ h3=>
  bA (nP mD.g) (aKU (Q:=okV) (by decide) uX) fun _ h4=>bA (bM _ _).g cQ fun _ _=>fW ⟨⟨h1,h2,h3.1,h3.2,h4⟩,rfl⟩
theorem aWE:fJ N oV N:=bA bV.g gL fun _ h=>bA (bM _ _).g cQ fun _ _=>fW h
theorem gv_mach:fJ N pC (fun m=>m.good N∧m.un=m):=
 bA bV.g gL fun _ h1=>bA (bM _ _).g cQ fun _ _=>bA bV.g gL fun _ h2=>bA (bM _ _).g cQ fun _ _=>bA mD.g uX fun _ h3=>bA (bM _ _).g cQ fun _ _=>fW ⟨⟨h1,h2,h3⟩,rfl⟩
theorem gv_optn:fJ N nX (fun o=>o.good N∧o.un=o):=
 bA bV.g gL fun _ h1=>bA (bM _ _).g cQ fun _ _=>bA (mX bV.g 4) (aPD bV.g gL (by decide)) fun _ h2=>bA (bM _ _).g cQ fun _ _=>bA (bM _ _).g cQ fun _ _=>fW ⟨⟨h1,h2.1,h2.2⟩,rfl⟩
theorem aRX:fJ N lA (fun c=>c.good N∧c.un=c):=
 bA bV.g gL fun _ h1=>bA (bM _ _).g cQ fun _ _=>bA bV.g gL fun _ h2=>fW ⟨⟨h1,h2⟩,rfl⟩
theorem aFA {α:Type} {f:α→α} {l:List α} (h:∀x∈l,f x=x):l.map f=l:=by
 rw [List.map_congr_left h,List.map_id']
theorem gv_forb:fJ N qB (fun f=>f.good N∧f.un=f):=
 bA (mX sE.g 6) (aPD sE.g aRX (by decide)) fun l h=>bA (bM _ _).g cQ fun _ _=>fW ⟨⟨h.1,fun c hc=>(h.2 c hc).1⟩,by
  show (⟨hd0,l.map Cd.un⟩:FbV)=⟨hd0,l⟩
  rw [aFA fun c hc=>(h.2 c hc).2]⟩
theorem gv_swap:fJ N qQ (fun x=>x.good N∧x.un=x):=
 bA bV.g gL fun _ h1=>bA (bM _ _).g cQ fun _ _=>bA bV.g gL fun _ h2=>bA (bM _ _).g cQ fun _ _=>fW ⟨⟨h1,h2⟩,rfl⟩
theorem aZA:fJ N outP (fun a=>(a.good N∧a.un0=a)∧a.back=false):=
 bA gY.g xY fun _ h1=>bA bV.g gL fun _ h2=>bA bV.g gL fun _ h3=>bA (bM _ _).g cQ fun _ _=>fW ⟨⟨⟨h1.1,h1.2,h2,h3⟩,rfl⟩,rfl⟩
theorem gv_in:fJ N inP (fun a=>a.good N∧a.un0=a):=
 bA (nP (nB _)) (Q:=fun _=>True) (fun _ _ _ _ _=>trivial) fun b _=>bA aAF.g aZA fun a h=>fW ⟨h.1.1,by
  show ({a.un0 with back:=b}:Am) = {a with back:=b}
  rw [h.1.2]⟩
theorem gv_run:fJ N yS (fun x=>x.good N∧x.un=x):=
 bA bV.g gL fun _ h1=>bA mD.g uX fun _ h2=>bA (bM _ _).g cQ fun _ _=>fW ⟨⟨h1,h2⟩,rfl⟩
theorem gv_rec:fJ N fT (fun x=>x.good N∧x.un=x):=
 bA bV.g gL fun _ h1=>bA (bM _ _).g cQ fun _ _=>bA bV.g gL fun _ h2=>bA (bM _ _).g cQ fun _ _=>bA mD.g uX fun _ h3=>bA (bM _ _).g cQ fun _ _=>bA mD.g uX fun _ h4=>
 bA (nP (mX sE.g 6)) (Q:=fun l=>l.length≤6 ∧ ∀c∈l,c.good N∧c.un=c) (aKU ⟨Nat.zero_le _,fun x hx=>nomatch hx⟩ (gv_mono (aPD sE.g aRX (by decide)) fun l h=>⟨h.1.2,h.2⟩)) fun cs h5=>
 bA (bM _ _).g cQ fun _ _=>bA (eH in_g.g 8) (aAG in_g.g gv_in 8) fun ins h6=>bA (eH aAF.g 8) (aAG aAF.g aZA 8) fun outs h7=>
 bA (bM _ _).g cQ fun _ _=>bA gY.g xY fun _ h8=>bA (bM _ _).g cQ fun _ _=>bA (bM _ _).g cQ fun _ _=>bA gY.g xY fun _ h9=>bA (bM _ _).g cQ fun _ _=>bA gY.g xY fun _ h10=>
 bA (bM _ _).g cQ fun _ _=>bA (bM _ _).g cQ fun _ _=>bA mD.g uX fun _ h11=>bA (bM _ _).g cQ fun _ _=>bA (eH aFE.g 8) (aAG aFE.g gv_run 8) fun runs h12=>bA (bM _ _).g cQ fun _ _=>
 fW ⟨⟨h1,h2,h3,h4,h5.1,fun c hc=>(h5.2 c hc).1,h6.1,fun c hc=>(h6.2 c hc).1,h7.1,fun c hc=>⟨(h7.2 c hc).1.1,(h7.2 c hc).2⟩,h8.1,h8.2,h9.1,h9.2,h10.1,h10.2,h11,h12.1,fun c hc=>(h12.2 c hc).1⟩,by
  unfold RcV.un
  simp only
  rw [aFA fun c hc=>(h5.2 c hc).2,aFA fun c hc=>(h6.2 c hc).2,aFA fun c hc=>(h7.2 c hc).1.2,aFA fun c hc=>(h12.2 c hc).2]⟩
/-! the definitions -/
theorem jM {α:Type} {Q:α→Prop} {l:List α} {x:α} (h:∀y∈l,Q y) (hx:Q x):∀y∈l++[x],Q y:=fun y hy=>(List.mem_append.1 hy).elim (h y) fun hy=>by rw [List.mem_singleton.1 hy];exact hx
theorem pB {α:Type} {l:List α} {x:α} {n:Nat} (h:l.length<n):(l++[x]).length≤n:=by rw [List.length_append];exact h
theorem qP {α:Type} {f:α→α} {l:List α} {x:α} (h:l.map f=l) (hx:f x=x):(l++[x]).map f=l++[x]:=by rw [List.map_append,h,List.map_cons,List.map_nil,hx]
theorem gv_def (hN:¬N e0) {s:aJ} (hs:s.good N) (hu:s.un=s):fJ N (dX s) (fun t=>t.good N∧t.un=t):=by
 have uU:=congrArg aJ.units hu
 have uI:=congrArg aJ.items hu
 have uM:=congrArg aJ.machines hu
 have uO:=congrArg aJ.options hu
 have uF:=congrArg aJ.forbids hu
 have uR:=congrArg aJ.recipes hu
 have uS:=congrArg aJ.swaps hu
 simp only [aJ.un] at uU uI uM uO uF uR uS
 refine aCL (fun hl=>bA aPG.g (gv_unit hN) fun x hx=>fW ⟨{hs with lU:=pB hl,U:=jM hs.U hx.1},?_⟩) <|
  aCL (fun hl=>bA aPX.g gv_item fun x hx=>fW ⟨{hs with lI:=pB hl,I:=jM hs.I hx.1},?_⟩) <|
  aCL (fun hl=>bA aKS.g aWE fun x hx=>fW ⟨{hs with lP:=pB hl,P:=jM hs.P hx},?_⟩) <|
  aCL (fun hl=>bA aQF.g gv_mach fun x hx=>fW ⟨{hs with lM:=pB hl,M:=jM hs.M hx.1},?_⟩) <|
  aCL (fun hl=>bA aQA.g gv_optn fun x hx=>fW ⟨{hs with lO:=pB hl,O:=jM hs.O hx.1},?_⟩) <|
  aCL (fun hl=>bA aPS.g gv_forb fun x hx=>fW ⟨{hs with lF:=pB hl,F:=jM hs.F hx.1},?_⟩) <|
  aCL (fun hl=>bA rec_g.g gv_rec fun x hx=>fW ⟨{hs with lR:=pB hl,R:=jM hs.R hx.1},?_⟩) <|
  aCL (fun hl=>bA aPB.g gv_swap fun x hx=>fW ⟨{hs with lS:=pB hl,S:=jM hs.S hx.1},?_⟩) gv_fail
 all_goals simp only [aJ.un,uU,uI,uM,uO,uF,uR,uS]
 ·rw [qP uU hx.2]
 ·rw [qP uI hx.2]
 ·rw [qP uM hx.2]
 ·rw [qP uO hx.2]
 ·rw [qP uF hx.2]
 ·rw [qP uR hx.2]
 rw [qP uS hx.2]
theorem aRW (hN:¬N e0):∀(n:Nat) (s:aJ),s.good N→s.un=s→fJ N (pF n s) (fun t=>t.good N∧t.un=t)
 |0,s,hs,hu=>fW ⟨hs,hu⟩
 |n+1,s,hs,hu=>fun r a r' hr e=>by
  simp only [pF] at e
  split at e
  ·cases e;exact ⟨hs,hu⟩
  exact bA (def_g s).g (gv_def hN hs hu) (fun t ht=>aRW hN n t ht.1 ht.2) r a r' hr e
theorem aXD:noS.good N:=⟨Nat.zero_le _,(fun _ h=>nomatch h),Nat.zero_le _,(fun _ h=>nomatch h),Nat.zero_le _,(fun _ h=>nomatch h),Nat.zero_le _,(fun _ h=>nomatch h),Nat.zero_le _,(fun _ h=>nomatch h),Nat.zero_le _,(fun _ h=>nomatch h),Nat.zero_le _,(fun _ h=>nomatch h),Nat.zero_le _,(fun _ h=>nomatch h)⟩
theorem aTD (hN:¬N e0) {r r':List Tok} {s:aJ} (hr:AllV N r) (h:aAK r=.ok s r'):s.good N∧s.un=s:=aRW hN _ noS aXD rfl r s r' hr h
end
end Go.SynM

namespace Go.SynM
open Go Go.Fw Go.RatM Go.SrcM
open Go.Proofs.YtgbeechjghajcaaGreatDoor (Tok)
def er (t:Tok):Tok:={t with pos:=0}
def Rs.mp {α:Type} (f:List Tok→List Tok):Rs α→Rs α
 | .ok a r=>.ok a (f r)
 | .bad r e=>.bad (f r) e
/-! errors -/
/-! sources behind sources -/
structure Fit (s:aJ):Prop where
 U:s.units.length≤32
 I:s.items.length≤32
 P:s.plants.length≤8
 M:s.machines.length≤16
 O:s.options.length≤6
 F:s.forbids.length≤16
 R:s.recipes.length≤64
 S:s.swaps.length≤32
structure Mor (s t:aJ):Prop where
 U:s.units.length≤t.units.length
 I:s.items.length≤t.items.length
 P:s.plants.length≤t.plants.length
 M:s.machines.length≤t.machines.length
 O:s.options.length≤t.options.length
 F:s.forbids.length≤t.forbids.length
 R:s.recipes.length≤t.recipes.length
 S:s.swaps.length≤t.swaps.length
theorem Mor.refl (s:aJ):Mor s s:=⟨Nat.le_refl _,Nat.le_refl _,Nat.le_refl _,Nat.le_refl _,Nat.le_refl _,Nat.le_refl _,Nat.le_refl _,Nat.le_refl _⟩
theorem Mor.trans {s t u:aJ} (a:Mor s t) (b:Mor t u):Mor s u:=⟨Nat.le_trans a.U b.U,Nat.le_trans a.I b.I,Nat.le_trans a.P b.P,Nat.le_trans a.M b.M,Nat.le_trans a.O b.O,Nat.le_trans a.F b.F,Nat.le_trans a.R b.R,Nat.le_trans a.S b.S⟩
end Go.SynM

namespace Go.Proofs.YtgbeechjghajcaaGreatDoor
open Go Go.Fw
end Go.Proofs.YtgbeechjghajcaaGreatDoor

namespace Go.SynM
open Go Go.Fw Go.RatM Go.SrcM
open Go.Proofs.YtgbeechjghajcaaGreatDoor (Tok)
section
variable {N:ByteArray→Prop}
theorem fb_un {f:FbV}:f.un.good N↔f.good N:=by
 unfold FbV.good FbV.un
 simp only [List.length_map,List.forall_mem_map]
 exact Iff.rfl
theorem rc_un {r:RcV}:r.un.good N↔r.good N:=by
 constructor
 ·rintro ⟨h1,h2,h3,h4,h5,h6,h7,h8,h9,h10,h11,h12,h13,h14,h15,h16,h17,h18,h19⟩
  simp only [RcV.un,List.length_map,List.forall_mem_map] at h5 h6 h7 h8 h9 h10 h18 h19
  exact ⟨h1,h2,h3,h4,h5,h6,h7,h8,h9,h10,h11,h12,h13,h14,h15,h16,h17,h18,h19⟩
 rintro ⟨h1,h2,h3,h4,h5,h6,h7,h8,h9,h10,h11,h12,h13,h14,h15,h16,h17,h18,h19⟩
 refine ⟨h1,h2,h3,h4,?_,?_,?_,?_,?_,?_,h11,h12,h13,h14,h15,h16,h17,?_,?_⟩<;>simp only [RcV.un,List.length_map,List.forall_mem_map]<;>assumption
theorem good_un {s:aJ}:s.un.good N↔s.good N:=by
 constructor
 ·rintro ⟨h1,h2,h3,h4,h5,h6,h7,h8,h9,h10,h11,h12,h13,h14,h15,h16⟩
  simp only [aJ.un,List.length_map,List.forall_mem_map,fb_un,rc_un] at h1 h2 h3 h4 h7 h8 h9 h10 h11 h12 h13 h14 h15 h16
  exact ⟨h1,h2,h3,h4,h5,h6,h7,h8,h9,h10,h11,h12,h13,h14,h15,h16⟩
 rintro ⟨h1,h2,h3,h4,h5,h6,h7,h8,h9,h10,h11,h12,h13,h14,h15,h16⟩
 refine ⟨?_,?_,?_,?_,h5,h6,?_,?_,?_,?_,?_,?_,?_,?_,?_,?_⟩<;>simp only [aJ.un,List.length_map,List.forall_mem_map,fb_un,rc_un]<;>assumption
theorem aRM {r:RcV}:r.bare.good N↔r.good N:=⟨fun h=>{h with},fun h=>{h with}⟩
theorem aIC {s:aJ}:s.bare.good N↔s.good N:=by
 constructor
 ·rintro ⟨h1,h2,h3,h4,h5,h6,h7,h8,h9,h10,h11,h12,h13,h14,h15,h16⟩
  simp only [aJ.bare,List.length_map,List.forall_mem_map,aRM] at h9 h10 h11 h12 h13 h14
  exact ⟨h1,h2,h3,h4,h5,h6,h7,h8,h9,h10,h11,h12,h13,h14,h15,h16⟩
 rintro ⟨h1,h2,h3,h4,h5,h6,h7,h8,h9,h10,h11,h12,h13,h14,h15,h16⟩
 refine ⟨h1,h2,h3,h4,h5,h6,h7,h8,?_,?_,?_,?_,?_,?_,h15,h16⟩<;>simp only [aJ.bare,List.length_map,List.forall_mem_map,aRM]<;>assumption
theorem aTS {s t:aJ} (h:s.bare=t.un.bare):s.good N↔t.good N:=by
 rw [←aIC,h,aIC,good_un]
/-! the tokens do not show numbers of names, nor where lists lie -/
end
/-! the tokens are valid -/
section
variable {N:ByteArray→Prop}
structure VT (N:ByteArray→Prop) (S:UInt8→Prop) (t:Tok):Prop where
 or:(∃x,t=tm x∧N x)∨(∃c,t=ts c∧S c) ∨ ∃n,t=tn n∧okV n
variable {S:UInt8→Prop}
abbrev AV (N:ByteArray→Prop) (S:UInt8→Prop) (l:List Tok):Prop:=∀t∈l,VT N S t
theorem iP:AV N S []:=fun _ h=>nomatch h
theorem kI {a b:List Tok} (ha:AV N S a) (hb:AV N S b):AV N S (a++b):=fun t ht=>(List.mem_append.1 ht).elim (ha t) (hb t)
theorem aQ {t:Tok} {l:List Tok} (h:VT N S t) (hl:AV N S l):AV N S (t::l):=fun u hu=>(List.mem_cons.1 hu).elim (fun e=>e▸h) (hl u)
theorem lQ {α:Type} {T:α→List Tok} {l:List α} (h:∀x∈l,AV N S (T x)):AV N S (l.map T).flatten:=fun t ht=>by
 obtain ⟨a,ha,ht⟩:=List.mem_flatten.1 ht
 obtain ⟨x,hx,rfl⟩:=List.mem_map.1 ha
 exact h x hx t ht
theorem vm {x:ByteArray} (h:N x):VT N S (tm x):=⟨.inl ⟨x,rfl,h⟩⟩
theorem vs {c:UInt8} (h:S c):VT N S (ts c):=⟨.inr (.inl ⟨c,rfl,h⟩)⟩
theorem vn {n:Int} (h:okV n):VT N S (tn n):=⟨.inr (.inr ⟨n,rfl,h⟩)⟩
structure Voc (N:ByteArray→Prop) (S:UInt8→Prop):Prop where
 w:∀l ∈ [gE,iI,fD,cE,dA,dK,iD,iC,wIn,rV,gW,wAt,oA,aAU,kP,qO,wTo,wIf,lB,gQ,jQ,gN,nY,oD],N (B l)
 s:∀c∈([61,47,59,123,125,44]:List UInt8),S c
theorem aPL {α:Type} {T:α→List Tok} {l:List α} (hs:S 44) (h:∀x∈l,AV N S (T x)):AV N S (gV T l):=by
 cases l with
 |nil=>exact iP
 |cons x l=>exact kI (h x (List.mem_cons_self ..)) (lQ fun y hy=>aQ (vs hs) (h y (List.mem_cons_of_mem _ hy)))
theorem aOW (V:Voc N S) {s:aJ} (h:s.good N):AV N S (jI s):=by
 have W:∀l ∈ [gE,iI,fD,cE,dA,dK,iD,iC,wIn,rV,gW,wAt,oA,aAU,kP,qO,wTo,wIf,lB,gQ,jQ,gN,nY,oD],VT N S (tw l):=fun l hl=>vm (V.w l hl)
 have Sg:∀c∈([61,47,59,123,125,44]:List UInt8),VT N S (ts c):=fun c hc=>vs (V.s c hc)
 simp only [List.forall_mem_cons] at W Sg
 obtain ⟨w1,w2,w3,w4,w5,w6,w7,w8,w9,w10,w11,w12,w13,w14,w15,w16,w17,w18,w19,w20,w21,w22,w23,w24,-⟩:=W
 obtain ⟨s1,s2,s3,s4,s5,s6,-⟩:=Sg
 have hc:=V.s 44 (by simp)
 have cond:∀c:Cd,c.good N→AV N S (iU c):=fun c h=>aQ (vm h.1) (aQ s1 (aQ (vm h.2) iP))
 have am:∀a:Am,a.good N→AV N S (amT a):=fun a h=>aQ (vn h.1) (aQ s2 (aQ (vn h.2.1) (aQ (vm h.2.2.1) (aQ (vm h.2.2.2) (aQ s3 iP)))))
 refine kI (lQ fun u hu=>?_) (kI (lQ fun u hu=>?_) (kI (lQ fun u hu=>?_) (kI (lQ fun u hu=>?_) (kI (lQ fun u hu=>?_) (kI (lQ fun u hu=>?_) (kI (lQ fun u hu=>?_) (lQ fun u hu=>?_)))))))
 ·obtain ⟨h1,h2⟩:=h.U u hu
  refine aQ w1 (aQ (vm h1) (kI ?_ (aQ s3 iP)))
  rcases h2 with ⟨h2,_⟩|⟨h2,h3,h4,h5⟩
  ·rw [if_pos h2];exact iP
  rw [if_neg h2];exact aQ s1 (aQ (vn h4) (aQ s2 (aQ (vn h5) (aQ (vm h3) iP))))
 ·obtain ⟨h1,h2,h3,h4,h5⟩:=h.I u hu
  refine aQ w2 (aQ (vm h1) (aQ w9 (aQ (vm h2) (aQ w10 (aQ (vn h3) (aQ s2 (aQ (vn h4) (kI ?_ (aQ s3 iP)))))))))
  by_cases h0:u.shelf=0
  ·rw [if_pos h0];exact iP
  rw [if_neg h0];exact aQ w11 (aQ (vn h5) iP)
 ·exact aQ w3 (aQ (vm (h.P u hu)) (aQ s3 iP))
 ·obtain ⟨h1,h2,h3⟩:=h.M u hu
  exact aQ w4 (aQ (vm h1) (aQ w12 (aQ (vm h2) (aQ w13 (aQ (vn h3) (aQ s3 iP))))))
 ·obtain ⟨h1,_,h3⟩:=h.O u hu
  exact aQ w5 (aQ (vm h1) (aQ s4 (kI (aPL hc fun c hc=>aQ (vm (h3 c hc)) iP) (aQ s5 (aQ s3 iP)))))
 ·obtain ⟨_,h2⟩:=h.F u hu
  exact aQ w6 (kI (aPL hc fun c hc=>cond c (h2 c hc)) (aQ s3 iP))
 ·have r:=h.R u hu
  refine aQ w7 (aQ (vm r.it) (aQ w12 (aQ (vm r.pl) (aQ w16 (aQ (vn r.fr) (aQ w17 (aQ (vn r.to) (kI ?_ (aQ s4 (kI (lQ fun a ha=>aQ w9 (kI ?_ (am a (r.inn a ha)))) (kI (lQ fun a ha=>aQ w19 (am a (r.out a ha).1)) ?_)))))))))))
  ·by_cases h0:u.cs=[]
   ·rw [if_pos h0];exact iP
   rw [if_neg h0];exact aQ w18 (aPL hc fun c hc=>cond c (r.cs c hc))
  ·by_cases h0:a.back=true
   ·rw [if_pos h0];exact aQ w15 iP
   rw [if_neg h0];exact iP
  exact aQ w20 (aQ (vn r.rw1) (aQ s2 (aQ (vn r.rw2) (aQ s3 (aQ w21 (aQ (vn r.y1) (aQ s2 (aQ (vn r.y2) (aQ w22 (aQ (vn r.t1) (aQ s2 (aQ (vn r.t2) (aQ s3 (aQ w23 (aQ (vn r.ld) (aQ s3 (kI (lQ fun x hx=>aQ w24 (aQ (vm (r.runs x hx).1) (aQ (vn (r.runs x hx).2) (aQ s3 iP)))) (aQ s5 iP))))))))))))))))))
 obtain ⟨h1,h2⟩:=h.S u hu
 exact aQ w8 (aQ (vm h1) (aQ w14 (aQ (vm h2) (aQ s3 iP))))
end
end Go.SynM

namespace Go.SynM
open Go Go.Fw Go.RatM Go.SrcM
open Go.Proofs.YtgbeechjghajcaaGreatDoor (Tok)
inductive Pt where
 |w (l:List UInt8)
 |s (x:ByteArray)
 |n (i:Int)
section
variable (N:ByteArray→Prop) [DecidablePred N]
def Pt.tok:Pt→Tok
 | .w l=>⟨if N (B l) then 1 else 3,0,B l,0⟩
 | .s x=>tm x
 | .n i=>tn i
def Pt.ok:Pt→Bool
 | .w _=>true
 | .s x=>decide (N x)
 | .n i=>decide (okV i)
def nN (l:List Pt):Bool:=l.all (Pt.ok N)
def iW (l:List Pt):List Tok:=l.map (Pt.tok N)
end
structure Pr where
 l:List Pt
 ok:Bool
def Pr.nil:Pr:=⟨[],true⟩
def Pr.add (a b:Pr):Pr:=⟨a.l++b.l,a.ok&&b.ok⟩
def Pr.all {α:Type} (f:α→Pr):List α→Pr
 | []=>Pr.nil
 |x::l=>(f x).add (Pr.all f l)
abbrev wS (c:UInt8):Pt:=.w [c]
def fG (l:List Cd):List Pt:=match l with
 | []=>[]
 |c::l=>[.s c.opt,wS 61,.s c.ch]++(l.map fun c=>[wS 44,.s c.opt,wS 61,.s c.ch]).flatten
def nL (u:Un):Pr:=if u.of_=e0 then ⟨[.w gE,.s u.name,wS 59],decide (u.n=0∧u.d=0)⟩ else ⟨[.w gE,.s u.name,wS 61,.n u.n,wS 47,.n u.d,.s u.of_,wS 59],true⟩
def pZ (i:It):Pr:=⟨[.w iI,.s i.name,.w wIn,.s i.unit,.w rV,.n i.mn,wS 47,.n i.md]++(if i.shelf=0 then [] else [.w gW,.n i.shelf])++[wS 59],true⟩
def rG (x:ByteArray):Pr:=⟨[.w fD,.s x,wS 59],true⟩
def wE (m:Mc):Pr:=⟨[.w cE,.s m.name,.w wAt,.s m.plant,.w oA,.n m.clean,wS 59],true⟩
def qU (l:List ByteArray):List Pt:=match l with
 | []=>[]
 |c::l=>.s c::(l.map fun c=>[wS 44,.s c]).flatten
def qN (o:OpV):Pr:=⟨[.w dA,.s o.name,wS 123]++qU o.ch++[wS 125,wS 59],decide (1≤o.ch.length∧o.ch.length≤4)⟩
def pU (f:FbV):Pr:=⟨[.w dK]++fG f.cs++[wS 59],decide (1≤f.cs.length∧f.cs.length≤6)⟩
def aMN (a:Am):List Pt:=[.n a.n,wS 47,.n a.d,.s a.unit,.s a.item,wS 59]
def aDX (a:Am):List Pt:=.w wIn::((if a.back then [.w kP] else [])++aMN a)
def aCV (a:Am):List Pt:=.w lB::aMN a
def aFS (x:Rn):List Pt:=[.w oD,.s x.mach,.n x.slots,wS 59]
def vB (r:RcV):Pr:=⟨[.w iD,.s r.item,.w wAt,.s r.plant,.w qO,.n r.fr,.w wTo,.n r.to]++((if r.cs=[] then [] else .w wIf::fG r.cs)++(wS 123::((r.inn.map aDX).flatten++((r.out.map aCV).flatten ++
  ([.w gQ,.n r.rwN,wS 47,.n r.rwD,wS 59,.w jQ,.n r.yN,wS 47,.n r.yD,.w gN,.n r.tN,wS 47,.n r.tD,wS 59,.w nY,.n r.lead,wS 59]++((r.runs.map aFS).flatten++[wS 125])))))),
 decide (r.inn.length≤8∧r.out.length≤8∧r.runs.length≤8)&&(decide (r.cs.length≤6)&&r.out.all fun a=> !a.back)⟩
def wT (x:Sw):Pr:=⟨[.w iC,.s x.a,.w aAU,.s x.b,wS 59],true⟩
def yH (s:aJ):Pr:=(Pr.all nL s.units).add ((Pr.all pZ s.items).add ((Pr.all rG s.plants).add ((Pr.all wE s.machines).add ((Pr.all qN s.options).add ((Pr.all pU s.forbids).add ((Pr.all vB s.recipes).add (Pr.all wT s.swaps)))))))
section
variable {N:ByteArray→Prop} [DecidablePred N]
theorem Pr.all_l {α:Type} {f:α→Pr}:∀l:List α,(Pr.all f l).l=(l.map fun x=>(f x).l).flatten
 | []=>rfl
 |x::l=>by simp only [Pr.all,Pr.add,List.map_cons,List.flatten_cons,Pr.all_l l]
theorem Pr.all_ok {α:Type} {f:α→Pr}:∀l:List α,(Pr.all f l).ok=true ↔ ∀x∈l,(f x).ok=true
 | []=>by simp [Pr.all,Pr.nil]
 |x::l=>by simp only [Pr.all,Pr.add,Bool.and_eq_true,List.forall_mem_cons,Pr.all_ok l]
theorem pQ {a b:List Pt}:nN N (a++b)=true↔nN N a=true∧nN N b=true:=by simp [nN]
theorem dT {p:Pt} {l:List Pt}:nN N (p::l)=true↔p.ok N=true∧nN N l=true:=by simp [nN]
theorem eA:nN N []=true:=rfl
theorem xV {α:Type} {f:α→List Pt} {l:List α}:nN N (l.map f).flatten=true ↔ ∀x∈l,nN N (f x)=true:=by
 induction l with
 |nil=>simp [eA]
 |cons x l ih=>simp only [List.map_cons,List.flatten_cons,pQ,ih,List.forall_mem_cons]
theorem wQ {l:List UInt8}:(Pt.w l).ok N=true↔True:=by simp [Pt.ok]
theorem aBX {x:ByteArray}:(Pt.s x).ok N=true↔N x:=by simp [Pt.ok]
theorem ok_n {i:Int}:(Pt.n i).ok N=true↔okV i:=by simp [Pt.ok]
abbrev Pr.good (N:ByteArray→Prop) [DecidablePred N] (p:Pr):Prop:=nN N p.l=true∧p.ok=true
theorem pJ {α:Type} {f:α→Pr} {l:List α}:(Pr.all f l).good N ↔ ∀x∈l,(f x).good N:=by
 unfold Pr.good
 rw [Pr.all_l,xV,Pr.all_ok]
 exact ⟨fun h x hx=>⟨h.1 x hx,h.2 x hx⟩,fun h=>⟨fun x hx=>(h x hx).1,fun x hx=>(h x hx).2⟩⟩
theorem rB {a b:Pr}:(a.add b).good N↔a.good N∧b.good N:=by
 unfold Pr.good
 simp only [Pr.add,pQ,Bool.and_eq_true]
 exact ⟨fun h=>⟨⟨h.1.1,h.2.1⟩,h.1.2,h.2.2⟩,fun h=>⟨⟨h.1.1,h.2.1⟩,h.1.2,h.2.2⟩⟩
theorem aTK {u:Un}:(nL u).good N↔aHV N u:=by
 unfold nL aHV Pr.good
 by_cases h:u.of_=e0
 ·rw [if_pos h]
  simp [dT,eA,wQ,aBX,h]
 rw [if_neg h]
 simp only [dT,eA,wQ,aBX,ok_n,h]
 constructor
 ·rintro ⟨⟨-,h1,-,h2,-,h3,h4,-,-⟩,-⟩
  exact ⟨h1,.inr ⟨h,h4,h2,h3⟩⟩
 rintro ⟨h1,⟨h2,_⟩|⟨_,h2,h3,h4⟩⟩
 ·exact h2.elim
 exact ⟨⟨trivial,h1,trivial,h3,trivial,h4,h2,trivial,trivial⟩,trivial⟩
theorem aUE {i:It}:(pZ i).good N↔i.good N:=by
 unfold pZ It.good Pr.good
 by_cases h:i.shelf=0
 ·rw [if_pos h]
  simp only [pQ,dT,eA,wQ,aBX,ok_n]
  constructor
  ·rintro ⟨⟨⟨⟨-,h1,-,h2,-,h3,-,h4,-⟩,-⟩,-⟩,-⟩
   exact ⟨h1,h2,h3,h4,by rw [h];decide⟩
  rintro ⟨h1,h2,h3,h4,_⟩
  exact ⟨⟨⟨⟨trivial,h1,trivial,h2,trivial,h3,trivial,h4,trivial⟩,trivial⟩,trivial,trivial⟩,trivial⟩
 rw [if_neg h]
 simp only [pQ,dT,eA,wQ,aBX,ok_n]
 constructor
 ·rintro ⟨⟨⟨⟨-,h1,-,h2,-,h3,-,h4,-⟩,-,h5,-⟩,-⟩,-⟩
  exact ⟨h1,h2,h3,h4,h5⟩
 rintro ⟨h1,h2,h3,h4,h5⟩
 exact ⟨⟨⟨⟨trivial,h1,trivial,h2,trivial,h3,trivial,h4,trivial⟩,trivial,h5,trivial⟩,trivial,trivial⟩,trivial⟩
theorem aQD {x:ByteArray}:(rG x).good N↔N x:=by
 unfold rG Pr.good
 simp [dT,eA,wQ,aBX]
theorem aSV {m:Mc}:(wE m).good N↔m.good N:=by
 unfold wE Mc.good Pr.good
 simp [dT,eA,wQ,aBX,ok_n]
theorem aVR {l:List ByteArray}:nN N (qU l)=true ↔ ∀x∈l,N x:=by
 cases l with
 |nil=>simp [qU,eA]
 |cons x l=>simp only [qU,dT,xV,eA,wQ,aBX,List.forall_mem_cons,true_and,and_true]
theorem aFY {l:List Cd}:nN N (fG l)=true ↔ ∀c∈l,c.good N:=by
 cases l with
 |nil=>simp [fG,eA]
 |cons x l=>simp only [fG,pQ,dT,xV,eA,wQ,aBX,List.forall_mem_cons,true_and,and_true,Cd.good]
theorem aTG {o:OpV}:(qN o).good N↔o.good N:=by
 unfold qN OpV.good Pr.good
 simp only [pQ,dT,eA,wQ,aBX,aVR,decide_eq_true_eq,true_and,and_true]
 exact ⟨fun h=>⟨h.1.1,h.2,h.1.2⟩,fun h=>⟨⟨h.1,h.2.2⟩,h.2.1⟩⟩
theorem aTP {f:FbV}:(pU f).good N↔f.good N:=by
 unfold pU FbV.good Pr.good
 simp only [pQ,dT,eA,wQ,aFY,decide_eq_true_eq,true_and,and_true]
 exact ⟨fun h=>⟨h.2,h.1⟩,fun h=>⟨h.2,h.1⟩⟩
theorem aRZ {a:Am}:nN N (aMN a)=true↔a.good N:=by
 unfold aMN Am.good
 simp only [dT,eA,wQ,aBX,ok_n,true_and,and_true]
theorem in_good {a:Am}:nN N (aDX a)=true↔a.good N:=by
 unfold aDX
 cases a.back<;>simp [dT,eA,wQ,aRZ]
theorem aVU {a:Am}:nN N (aCV a)=true↔a.good N:=by
 unfold aCV
 simp [dT,wQ,aRZ]
theorem aVB {x:Rn}:nN N (aFS x)=true↔x.good N:=by
 unfold aFS Rn.good
 simp only [dT,eA,wQ,aBX,ok_n,true_and,and_true]
theorem aVX {r:RcV}:(vB r).good N↔r.good N:=by
 have hc:nN N (if r.cs=[] then [] else .w wIf::fG r.cs)=true ↔ ∀c∈r.cs,c.good N:=by
  by_cases h:r.cs=[]
  ·rw [if_pos h,h];simp [eA]
  rw [if_neg h];simp only [dT,wQ,aFY,true_and]
 unfold vB Pr.good
 simp only [pQ,dT,eA,xV,wQ,aBX,ok_n,hc,in_good,aVU,aVB,Bool.and_eq_true,decide_eq_true_eq,List.all_eq_true,Bool.not_eq_true',true_and,and_true]
 constructor
 ·rintro ⟨⟨⟨a1,a2,a3,a4⟩,b1,b2,b3,⟨c1,c2,c3,c4,c5,c6,c7⟩,d⟩,⟨e1,e2,e3⟩,f1,f2⟩
  exact ⟨a1,a2,a3,a4,f1,b1,e1,b2,e2,fun a ha=>⟨b3 a ha,f2 a ha⟩,c1,c2,c3,c4,c5,c6,c7,e3,d⟩
 rintro ⟨a1,a2,a3,a4,f1,b1,e1,b2,e2,b3,c1,c2,c3,c4,c5,c6,c7,e3,d⟩
 exact ⟨⟨⟨a1,a2,a3,a4⟩,b1,b2,fun a ha=>(b3 a ha).1,⟨c1,c2,c3,c4,c5,c6,c7⟩,d⟩,⟨e1,e2,e3⟩,f1,fun a ha=>(b3 a ha).2⟩
theorem aTI {x:Sw}:(wT x).good N↔x.good N:=by
 unfold wT Sw.good Pr.good
 simp [dT,eA,wQ,aBX]
theorem aFU {s:aJ} (hF:Fit s):(yH s).good N↔s.good N:=by
 unfold yH
 rw [rB,rB,rB,rB,rB,rB,rB,pJ,pJ,pJ,pJ,pJ,pJ,pJ,pJ]
 simp only [aTK,aUE,aQD,aSV,aTG,aTP,aVX,aTI]
 constructor
 ·rintro ⟨h1,h2,h3,h4,h5,h6,h7,h8⟩
  exact ⟨hF.U,h1,hF.I,h2,hF.P,h3,hF.M,h4,hF.O,h5,hF.F,h6,hF.R,h7,hF.S,h8⟩
 rintro ⟨_,h1,_,h2,_,h3,_,h4,_,h5,_,h6,_,h7,_,h8⟩
 exact ⟨h1,h2,h3,h4,h5,h6,h7,h8⟩
omit [DecidablePred N] in
theorem aUX {s:aJ} (h:s.good N):Fit s:=⟨h.lU,h.lI,h.lP,h.lM,h.lO,h.lF,h.lR,h.lS⟩
/-! the tokens are those of jI -/
structure aBS (N:ByteArray→Prop):Prop where
 w:∀l ∈ [gE,iI,fD,cE,dA,dK,iD,iC,wIn,rV,gW,wAt,oA,aAU,kP,qO,wTo,wIf,lB,gQ,jQ,gN,nY,oD],N (B l)
 s:∀c∈([61,47,59,123,125,44]:List UInt8),¬N (B [c])
theorem tok_w {l:List UInt8} (h:N (B l)):(Pt.w l).tok N=tw l:=by simp only [Pt.tok,if_pos h];rfl
theorem tok_g {c:UInt8} (h:¬N (B [c])):(wS c).tok N=ts c:=by simp only [Pt.tok,if_neg h];rfl
theorem jP {a b:List Pt}:iW N (a++b)=iW N a++iW N b:=List.map_append
theorem dG {p:Pt} {l:List Pt}:iW N (p::l)=p.tok N::iW N l:=rfl
theorem fF:iW N []=[]:=rfl
theorem tO {α:Type} {f:α→List Pt} {l:List α}:iW N (l.map f).flatten=(l.map fun x=>iW N (f x)).flatten:=by
 induction l with
 |nil=>rfl
 |cons x l ih=>simp only [List.map_cons,List.flatten_cons,jP,ih]
theorem rO {α:Type} {f:α→Pr} {T:α→List Tok} {l:List α} (h:∀x,iW N (f x).l=T x):iW N (Pr.all f l).l=(l.map T).flatten:=by
 rw [Pr.all_l,tO,List.map_congr_left fun x _=>h x]
theorem aJN (V:aBS N) {s:aJ}:iW N (yH s).l=jI s:=by
 have W:∀l ∈ [gE,iI,fD,cE,dA,dK,iD,iC,wIn,rV,gW,wAt,oA,aAU,kP,qO,wTo,wIf,lB,gQ,jQ,gN,nY,oD],(Pt.w l).tok N=tw l:=fun l hl=>tok_w (V.w l hl)
 have Sg:∀c∈([61,47,59,123,125,44]:List UInt8),(wS c).tok N=ts c:=fun c hc=>tok_g (V.s c hc)
 simp only [List.forall_mem_cons] at W Sg
 obtain ⟨w1,w2,w3,w4,w5,w6,w7,w8,w9,w10,w11,w12,w13,w14,w15,w16,w17,w18,w19,w20,w21,w22,w23,w24,-⟩:=W
 obtain ⟨s1,s2,s3,s4,s5,s6,-⟩:=Sg
 have ts':∀x,(Pt.s x).tok N=tm x:=fun _=>rfl
 have tn':∀i,(Pt.n i).tok N=tn i:=fun _=>rfl
 have cond:∀l:List Cd,iW N (fG l)=gV iU l:=fun l=>by
  cases l with
  |nil=>rfl
  |cons c l=>simp only [fG,jP,dG,fF,tO,ts',s1,s6,gV,iU]
 have chs:∀l:List ByteArray,iW N (qU l)=gV (fun c=>[tm c]) l:=fun l=>by
  cases l with
  |nil=>rfl
  |cons c l=>simp only [qU,dG,fF,tO,ts',s6,gV];rfl
 have am:∀a:Am,iW N (aMN a)=amT a:=fun a=>by simp only [aMN,dG,fF,ts',tn',s2,s3,amT]
 unfold yH jI
 simp only [Pr.add,jP]
 refine congr (congrArg _ (rO fun u=>?_))<|congr (congrArg _ (rO fun i=>?_))<|congr (congrArg _ (rO fun x=>?_))<|congr (congrArg _ (rO fun m=>?_))<|congr (congrArg _ (rO fun o=>?_))<|congr (congrArg _ (rO fun f=>?_))<|congr (congrArg _ (rO fun r=>?_)) (rO fun x=>?_)
 ·unfold nL mJ
  by_cases h:u.of_=e0
  ·simp only [if_pos h,dG,fF,ts',w1,s3,List.nil_append]
  simp only [if_neg h,dG,fF,ts',tn',w1,s1,s2,s3,List.cons_append,List.nil_append]
 ·unfold pZ mV
  by_cases h:i.shelf=0
  ·simp only [if_pos h,jP,dG,fF,ts',tn',w2,w9,w10,s2,s3,List.nil_append,List.cons_append,List.append_nil]
  simp only [if_neg h,jP,dG,fF,ts',tn',w2,w9,w10,w11,s2,s3,List.nil_append,List.cons_append]
 ·simp only [rG,lY,dG,fF,ts',w3,s3]
 ·simp only [wE,qR,dG,fF,ts',tn',w4,w12,w13,s3]
 ·simp only [qN,nZ,jP,dG,fF,ts',chs,w5,s3,s4,s5,List.cons_append,List.nil_append]
 ·simp only [pU,qD,jP,dG,fF,cond,w6,s3,List.cons_append,List.nil_append]
 ·have hc:iW N (if r.cs=[] then [] else .w wIf::fG r.cs)=if r.cs=[] then [] else tw wIf::gV iU r.cs:=by
   by_cases h:r.cs=[]
   ·rw [if_pos h,if_pos h];rfl
   rw [if_neg h,if_neg h,dG,w18,cond]
  have hi:∀a:Am,iW N (aDX a)=tw wIn::inT a:=fun a=>by
   unfold aDX inT
   cases a.back<;>simp [dG,jP,fF,w9,w15,am]
  have ho:∀a:Am,iW N (aCV a)=tw lB::amT a:=fun a=>by simp only [aCV,dG,w19,am]
  have hr:∀x:Rn,iW N (aFS x)=tw oD::runT x:=fun x=>by simp only [aFS,runT,dG,fF,ts',tn',w24,s3]
  simp only [vB,uK,jP,dG,fF,tO,ts',tn',hc,hi,ho,hr,w7,w12,w16,w17,w20,w21,w22,w23,s2,s3,s4,s5,List.cons_append,List.nil_append]
 simp only [wT,qX,dG,fF,ts',w8,w14,s3]
end
end Go.SynM
