/- A part of the proof: contracts of functions, by a verified generator of conditions; no condition of its own. -/
import Derived.Test.YthhomimmnogngaaGreatDoorDm21
import Derived.Test.YthhomimmnogngaaGreatDoorProg
import Derived.KernelRfl
namespace Go.Proofs.Tryz
open Go Go.Dm
set_option maxRecDepth 100000
def T0z:TI:={agg:=false,ck:=[.fn],bytes:=8,td:=.other}
def T1z:TI:={agg:=false,ck:=[.int .i64],bytes:=8,td:=.plain}
def T2z:TI:={agg:=false,ck:=[.int .u8],bytes:=1,td:=.plain}
def T3z:TI:={agg:=true,ck:=[.int .i64,.int .i64,.bool,.int .u8],bytes:=24,td:=.struct [(0,2),(1,3),(2,4),(3,6)],eq:=true}
def T4z:TI:={agg:=false,ck:=[.str],bytes:=16,td:=.plain}
def T5z:TI:={agg:=false,ck:=[.int .u64],bytes:=8,td:=.plain}
def T6z:TI:={agg:=true,ck:=[.str,.int .u64],bytes:=24,td:=.struct [(0,9),(1,12)]}
def T7z:TI:={agg:=true,ck:=[.ptr],bytes:=8,td:=.struct [(0,17)]}
def T8z:TI:={agg:=false,ck:=[.iface],bytes:=16,td:=.iface}
def T9z:TI:={agg:=false,ck:=[.int .i32],bytes:=4,td:=.plain}
def T10z:TI:={agg:=true,ck:=[.int .i64,.int .i64],bytes:=16,td:=.struct [(0,3),(1,3)],eq:=true}
def T11z:TI:={agg:=true,ck:=[.int .i64,.int .i64,.bool,.int .i64,.str],bytes:=48,td:=.struct [(0,23),(2,4),(3,2),(4,9)],eq:=true}
def T12z:TI:={agg:=true,ck:=[.int .i64,.int .i64,.int .i64,.int .i64,.int .i64,.int .i64,.bool,.int .i64,.str,.sl],bytes:=104,td:=.struct [(0,3),(1,3),(2,23),(4,25),(9,26)]}
def T13z:TI:={agg:=true,ck:=[.sl,.sl],bytes:=48,td:=.struct [(0,29),(1,46)]}
def T14z:TI:={agg:=true,ck:=[.ptr,.sl],bytes:=32,td:=.struct [(0,92),(1,93)]}
def T15z:TI:={agg:=true,ck:=[.int .i64,.int .u64],bytes:=16,td:=.struct [(0,2),(1,139)],eq:=true}
def T16z:TI:={agg:=true,ck:=[.int .u8,.int .u8],bytes:=2,td:=.struct [(0,5),(1,5)],eq:=true}
def T17z:TI:={agg:=true,ck:=[.bool,.bool,.bool,.bool,.bool,.bool,.bool,.bool,.bool,.bool,.bool,.bool,.bool,.bool,.bool,.bool,.bool,.bool,.bool,.bool,.bool,.bool,.bool,.bool,.bool,.bool,.bool,.bool,.bool,.bool,.bool,.bool,.bool,.bool,.bool,.bool,.bool,.bool,.bool,.bool,.bool,.bool,.bool,.bool,.bool,.bool,.bool,.bool,.bool,.bool,.bool,.bool,.bool,.bool,.bool,.bool,.bool,.bool,.bool,.bool,.bool,.bool,.bool,.bool,.bool,.bool,.bool,.bool,.bool,.bool,.bool,.bool,.bool,.bool,.bool,.bool,.bool,.bool,.bool,.bool,.bool,.bool,.bool,.bool,.bool,.bool,.bool,.bool,.bool,.bool,.bool,.bool,.bool,.bool,.bool,.bool,.bool,.bool,.bool,.bool,.bool,.bool,.bool,.bool,.bool,.bool,.bool,.bool,.bool,.bool,.bool,.bool,.bool,.bool,.bool,.bool,.bool,.bool,.bool,.bool,.bool,.bool,.bool,.bool,.bool,.bool,.bool,.bool,.bool,.bool,.bool,.bool,.bool,.bool,.bool,.bool,.bool,.bool,.bool,.bool,.bool,.bool,.bool,.bool,.bool,.bool,.bool,.bool,.bool,.bool,.bool,.bool,.bool,.bool,.bool,.bool,.bool,.bool,.bool,.bool,.bool,.bool,.bool,.bool,.bool,.bool,.bool,.bool,.bool,.bool,.bool,.bool,.bool,.bool,.bool,.bool,.bool,.bool,.bool,.bool,.bool,.bool,.bool,.bool,.bool,.bool,.bool,.bool,.bool,.bool,.bool,.bool,.bool,.bool,.bool,.bool,.bool,.bool,.bool,.bool,.bool,.bool,.bool,.bool,.bool,.bool,.bool,.bool,.bool,.bool,.bool,.bool,.bool,.bool,.bool,.bool,.bool,.bool,.bool,.bool,.bool,.bool,.bool,.bool,.bool,.bool,.bool,.bool,.bool,.bool,.bool,.bool,.bool,.bool,.bool,.bool,.bool,.bool,.bool,.bool,.bool,.bool,.bool,.bool,.bool,.bool,.bool,.bool,.bool,.bool,.bool,.bool,.bool,.bool,.bool,.bool],bytes:=256,td:=.arr 256 4}
def T18z:TI:={agg:=true,ck:=[.str,.str,.iface],bytes:=48,td:=.struct [(0,9),(1,9),(2,98)]}
def T19z:TI:={agg:=true,ck:=[.str],bytes:=16,td:=.struct [(0,9)],eq:=true}
def T20z:TI:={agg:=true,ck:=[.ptr,.ptr,.ptr,.str],bytes:=40,td:=.struct [(0,17),(1,17),(2,17),(3,9)]}
def T21z:TI:={agg:=true,ck:=[.int .u64,.int .u64,.int .u32,.int .u8,.int .u8,.int .u8,.int .u8,.fn,.ptr,.int .i32,.int .i32],bytes:=48,td:=.struct [(0,12),(1,12),(2,152),(3,248),(4,5),(5,5),(6,249),(7,250),(8,130),(9,251),(10,252)]}
def fm(k:List Nat)(s:List (Nat×Sched))(l:List (Nat×(List Nat×List Nat))):Fi:={keep:=k,sc:=s,lp:=l}
def sq:Nat→Nat→Sched→Sched
 |_,0,r=>r
 |a,n+1,r=>.q a (sq (a+1) n r)
def te_0:List (Nat×TI):=[
 (1,T0z),(2,T1z),(3,T1z),(4,{agg:=false,ck:=[.bool],bytes:=1,td:=.plain}),(5,T2z),(6,T2z),(7,T3z),(8,T3z),(9,T4z),(10,T4z),(11,T4z),(12,T5z),(13,T6z),(14,T6z),
 (15,{agg:=false,ck:=[.ptr],bytes:=8,td:=.ptr 244}),(16,{agg:=false,ck:=[.ptr],bytes:=8,td:=.ptr 247}),(17,{agg:=false,ck:=[.ptr],bytes:=8,td:=.ptr 254}),(18,T7z),(19,T7z),
 (20,T8z),(21,T9z),(22,T10z),(23,T10z),(24,T11z),(25,T11z),(26,{agg:=false,ck:=[.sl],bytes:=24,td:=.slice 28}),(27,T12z),(28,T12z),
 (29,{agg:=false,ck:=[.sl],bytes:=24,td:=.slice 25}),(30,T0z),(31,T1z),(33,T0z),(34,{agg:=false,ck:=[.sl],bytes:=24,td:=.slice 3}),(35,T0z),(36,T0z),(37,T0z),(38,T0z),(39,T0z),
 (41,T0z),(42,T0z),(43,T0z),(45,T0z),(46,{agg:=false,ck:=[.sl],bytes:=24,td:=.slice 23}),(47,T0z),(48,T0z),(49,T0z),(51,{agg:=false,ck:=[.ptr],bytes:=8,td:=.ptr 53}),(52,T13z),
 (53,T13z),(54,T0z),(55,{agg:=false,ck:=[.map],bytes:=8,td:=.map 3 4}),(56,T0z),(57,T0z),(58,T0z),(59,T0z),(60,T0z),(61,T0z),(62,T0z),(63,T0z),(64,T0z),(65,T0z),
 (66,{agg:=false,ck:=[.sl],bytes:=24,td:=.slice 9}),(67,T0z),(68,T0z),(69,T0z),(70,T0z),(71,T0z),(73,T0z),(74,T0z),(76,T0z),(77,T0z),(78,T0z),(79,T0z),(80,T0z),(81,T0z),(82,T0z),
 (83,T0z),(84,T0z),(85,T0z),(86,T0z),(88,T0z),(89,T0z),
 (90,{agg:=true,ck:=[.str,.str,.str,.str,.str,.str,.str,.str,.str,.str,.str,.str,.str,.str,.str,.str,.str,.str,.str],bytes:=304,td:=.arr 19 9}),
 (91,{agg:=true,ck:=[.str,.str,.str,.str,.str,.str,.str],bytes:=112,td:=.arr 7 9}),(92,{agg:=false,ck:=[.ptr],bytes:=8,td:=.ptr 95}),
 (93,{agg:=false,ck:=[.sl],bytes:=24,td:=.slice 5}),(94,T14z),(95,T14z),(96,T0z),(97,T8z),(98,T8z),(100,T0z),(101,T0z),(102,T0z),(103,T0z),(104,T0z),(105,T0z),(106,T0z),(107,T0z),
 (108,T0z),(109,T0z),(111,T0z),(112,T0z),(113,T0z),(114,T0z),(115,T0z),(117,T0z),(118,T0z),(119,T0z),(120,T0z),(121,T0z),(122,T5z),(123,T0z),(125,T0z),(126,T0z),(128,T0z),(129,T0z),
 (130,{agg:=false,ck:=[.ptr],bytes:=8,td:=.ptr 5}),(131,T0z),(132,T0z),(133,T0z),(134,T0z),(135,T0z),(136,T0z),
 (137,{agg:=true,ck:=[.bool,.bool,.bool,.bool,.bool,.bool,.bool],bytes:=7,td:=.arr 7 4}),(138,T0z),(139,T5z),(140,T15z),(141,T15z),(142,T0z),(143,T0z),(144,T1z),(146,T0z),(147,T0z),
 (148,T0z),(149,T0z),(150,T0z),(151,T0z),(152,{agg:=false,ck:=[.int .u32],bytes:=4,td:=.plain}),(153,T0z),
 (154,{agg:=true,ck:=[.int .u8,.int .u8,.int .u8,.int .u8,.int .u8,.int .u8,.int .u8,.int .u8,.int .u8,.int .u8,.int .u8,.int .u8,.int .u8,.int .u8,.int .u8,.int .u8,.int .u8,.int .u8,.int .u8,.int .u8,.int .u8,.int .u8,.int .u8,.int .u8],bytes:=24,td:=.arr 24 5}),
 (155,T0z),(157,T0z),(158,T0z),(160,T0z),(161,T0z),(163,T0z),(164,T0z),(165,{agg:=false,ck:=[.map],bytes:=8,td:=.map 9 2}),(167,T0z),(168,T0z),(170,T0z),(171,T0z),(172,T0z),
 (173,T0z),(174,T0z),(175,T5z),(176,T0z),(177,T0z),(178,T0z),(179,{agg:=false,ck:=[.ptr],bytes:=8,td:=.ptr 3}),(180,T0z),(181,T0z),
 (182,{agg:=true,ck:=[.int .u64,.int .u64,.int .u64,.int .u64,.int .u64,.int .u64,.int .u64,.int .u64,.int .u64,.int .u64,.int .u64,.int .u64,.int .u64,.int .u64,.int .u64,.int .u64,.int .u64,.int .u64,.int .u64,.int .u64],bytes:=160,td:=.arr 20 139}),
 (183,{agg:=true,ck:=[.int .u8,.int .u8,.int .u8,.int .u8,.int .u8,.int .u8,.int .u8,.int .u8,.int .u8,.int .u8,.int .u8,.int .u8,.int .u8,.int .u8,.int .u8,.int .u8,.int .u8,.int .u8,.int .u8,.int .u8,.int .u8,.int .u8,.int .u8,.int .u8,.int .u8,.int .u8,.int .u8,.int .u8,.int .u8,.int .u8,.int .u8,.int .u8,.int .u8,.int .u8,.int .u8,.int .u8,.int .u8,.int .u8,.int .u8,.int .u8,.int .u8,.int .u8,.int .u8,.int .u8,.int .u8,.int .u8,.int .u8,.int .u8,.int .u8,.int .u8,.int .u8,.int .u8,.int .u8,.int .u8,.int .u8,.int .u8,.int .u8,.int .u8,.int .u8,.int .u8,.int .u8,.int .u8,.int .u8,.int .u8,.int .u8],bytes:=65,td:=.arr 65 5}),
 (184,T0z),(185,T0z),(186,T0z),(188,T0z),(189,T0z),
 (190,{agg:=true,ck:=[.int .i64,.int .i64,.int .i64,.int .i64,.int .i64,.int .i64,.int .i64,.int .i64,.int .i64,.int .i64,.int .i64,.int .i64],bytes:=96,td:=.arr 12 3}),(191,T0z),(192,T0z),
 (193,T0z),(194,T0z),(196,T0z),(198,T0z),(199,T0z),(200,{agg:=false,ck:=[.ptr],bytes:=8,td:=.ptr 175}),(202,T0z),
 (203,{agg:=true,ck:=[.int .u8,.int .u8,.int .u8,.int .u8,.int .u8,.int .u8,.int .u8,.int .u8,.int .u8,.int .u8,.int .u8,.int .u8,.int .u8,.int .u8,.int .u8,.int .u8,.int .u8,.int .u8,.int .u8,.int .u8,.int .u8,.int .u8,.int .u8,.int .u8,.int .u8,.int .u8,.int .u8,.int .u8,.int .u8,.int .u8,.int .u8,.int .u8,.int .u8,.int .u8,.int .u8,.int .u8,.int .u8,.int .u8,.int .u8,.int .u8,.int .u8,.int .u8,.int .u8,.int .u8,.int .u8,.int .u8,.int .u8,.int .u8,.int .u8,.int .u8,.int .u8,.int .u8,.int .u8,.int .u8,.int .u8,.int .u8,.int .u8,.int .u8,.int .u8,.int .u8,.int .u8,.int .u8,.int .u8,.int .u8,.int .u8,.int .u8,.int .u8,.int .u8,.int .u8,.int .u8,.int .u8,.int .u8,.int .u8,.int .u8,.int .u8,.int .u8,.int .u8,.int .u8,.int .u8,.int .u8,.int .u8,.int .u8,.int .u8,.int .u8,.int .u8,.int .u8,.int .u8,.int .u8,.int .u8,.int .u8,.int .u8,.int .u8,.int .u8,.int .u8,.int .u8,.int .u8,.int .u8,.int .u8,.int .u8,.int .u8,.int .u8,.int .u8,.int .u8,.int .u8,.int .u8,.int .u8,.int .u8,.int .u8,.int .u8,.int .u8,.int .u8,.int .u8,.int .u8,.int .u8,.int .u8,.int .u8,.int .u8,.int .u8,.int .u8,.int .u8,.int .u8,.int .u8,.int .u8,.int .u8,.int .u8,.int .u8,.int .u8,.int .u8,.int .u8,.int .u8,.int .u8,.int .u8,.int .u8,.int .u8,.int .u8,.int .u8,.int .u8,.int .u8,.int .u8,.int .u8,.int .u8,.int .u8,.int .u8,.int .u8,.int .u8,.int .u8,.int .u8,.int .u8,.int .u8,.int .u8,.int .u8,.int .u8,.int .u8,.int .u8,.int .u8,.int .u8,.int .u8,.int .u8,.int .u8,.int .u8,.int .u8,.int .u8,.int .u8,.int .u8,.int .u8,.int .u8,.int .u8,.int .u8,.int .u8,.int .u8,.int .u8,.int .u8,.int .u8,.int .u8,.int .u8,.int .u8,.int .u8,.int .u8,.int .u8,.int .u8,.int .u8,.int .u8,.int .u8,.int .u8,.int .u8,.int .u8,.int .u8,.int .u8,.int .u8,.int .u8,.int .u8,.int .u8,.int .u8,.int .u8,.int .u8,.int .u8,.int .u8,.int .u8,.int .u8,.int .u8,.int .u8,.int .u8,.int .u8,.int .u8,.int .u8,.int .u8,.int .u8,.int .u8,.int .u8,.int .u8,.int .u8,.int .u8,.int .u8,.int .u8,.int .u8,.int .u8,.int .u8,.int .u8,.int .u8,.int .u8,.int .u8,.int .u8,.int .u8,.int .u8,.int .u8,.int .u8,.int .u8,.int .u8,.int .u8,.int .u8,.int .u8,.int .u8,.int .u8,.int .u8,.int .u8,.int .u8,.int .u8,.int .u8,.int .u8,.int .u8,.int .u8,.int .u8,.int .u8,.int .u8,.int .u8,.int .u8,.int .u8,.int .u8,.int .u8,.int .u8,.int .u8,.int .u8,.int .u8,.int .u8,.int .u8,.int .u8],bytes:=256,td:=.arr 256 5}),
 (204,T16z),(205,T16z),
 (206,{agg:=true,ck:=[.int .u8,.int .u8,.int .u8,.int .u8,.int .u8,.int .u8,.int .u8,.int .u8,.int .u8,.int .u8,.int .u8,.int .u8,.int .u8,.int .u8,.int .u8,.int .u8,.int .u8,.int .u8,.int .u8,.int .u8,.int .u8,.int .u8,.int .u8,.int .u8,.int .u8,.int .u8,.int .u8,.int .u8,.int .u8,.int .u8,.int .u8,.int .u8],bytes:=32,td:=.arr 16 205}),
 (208,T0z),(210,T0z),(211,T0z),(212,T0z),(213,T0z),(214,T0z),
 (215,{agg:=true,ck:=[.int .u8,.int .u8,.int .u8,.int .u8,.int .u8,.int .u8,.int .u8,.int .u8,.int .u8,.int .u8,.int .u8,.int .u8,.int .u8,.int .u8,.int .u8,.int .u8,.int .u8,.int .u8,.int .u8,.int .u8,.int .u8,.int .u8,.int .u8,.int .u8,.int .u8,.int .u8,.int .u8,.int .u8,.int .u8,.int .u8,.int .u8,.int .u8],bytes:=32,td:=.arr 32 5}),
 (216,{agg:=true,ck:=[.int .u8,.int .u8,.int .u8,.int .u8,.int .u8,.int .u8,.int .u8,.int .u8,.int .u8,.int .u8,.int .u8,.int .u8,.int .u8,.int .u8,.int .u8,.int .u8,.int .u8,.int .u8,.int .u8,.int .u8,.int .u8,.int .u8,.int .u8,.int .u8,.int .u8,.int .u8,.int .u8,.int .u8,.int .u8,.int .u8,.int .u8,.int .u8,.int .u8,.int .u8,.int .u8,.int .u8,.int .u8,.int .u8,.int .u8,.int .u8,.int .u8,.int .u8,.int .u8,.int .u8,.int .u8,.int .u8,.int .u8,.int .u8,.int .u8,.int .u8,.int .u8,.int .u8,.int .u8,.int .u8,.int .u8,.int .u8,.int .u8,.int .u8,.int .u8,.int .u8,.int .u8,.int .u8,.int .u8,.int .u8],bytes:=64,td:=.arr 64 5}),
 (217,T0z),(218,T0z),(219,T0z),(220,T17z),(221,T17z),(223,T0z),(224,T0z),(225,{agg:=false,ck:=[.ptr],bytes:=8,td:=.ptr 221}),(226,T1z),(228,T0z),
 (229,{agg:=false,ck:=[.ptr],bytes:=8,td:=.ptr 236}),(230,T0z),(231,T0z),(232,T0z),(233,T0z),(234,T0z),(235,T18z),(236,T18z),(237,T0z),(238,T0z),
 (239,{agg:=false,ck:=[.ptr],bytes:=8,td:=.ptr 241}),(240,T19z),(241,T19z),(242,T0z),(243,T20z),(244,T20z),(248,T2z),(249,T2z),(250,T0z),(251,T9z),(252,T9z),(253,T21z),(254,T21z)]
def E_0:Env:={te:=te_0}
def fi3:=fm [4,8,9,10,11,12,13,14,15,16,17,18,19,20,21,22,23,25,33,39,40,41,73,95,102,103,104,113,114,115,146] [(11,(sq 0 22 (.one 22 [21,20,19,18,17,16,15,14,13,12,11,10,9,8,7,6,5,4,3,2,1,0] (sq 23 5 (.one 28 [27,26,25,24,23] (.q 29 (.q 30 .done)))))))] [(9,([1,2,3,4,8,9,10,11,12,39,40],[65,71])),(21,([1,4,8,9,10,16,17,18,102,103],[109])),(26,([1,4,8,9,10,16,17,18,113,114],[125,126,136,137]))]
def fi4:=fm [0,1,2,3,4,5,7] [(5,(.q 0 (.one 1 [] (sq 2 12 (.one 14 [13,12,11,10,9,8,7,6,5,4,3,2,0] (.q 15 (.one 16 [15] (sq 17 3 .done))))))))] []
def fi5:=fm [2,4,5,7,8,9,18,22,35] [(1,(.q 0 (.q 1 (.alt 2 [1] (.alt 3 [0] (sq 4 3 (.one 7 [] (.one 8 [5,4] (.q 9 .done)))) (.one 7 [] (.one 3 [0] (sq 4 3 (.one 8 [5,4] (.q 9 .done)))))) (.one 7 [] (.one 2 [1] (.one 3 [0] (sq 4 3 (.one 8 [5,4] (.q 9 .done)))))))))),(6,(.q 0 (.q 1 (.q 5 (.alt 2 [1] (.q 3 (.alt 4 [3,0] (.alt 6 [5] (sq 7 3 (.one 10 [] (.one 11 [8,7] (.q 12 .done)))) (.one 10 [] (.one 6 [5] (sq 7 3 (.one 11 [8,7] (.q 12 .done)))))) (.one 10 [] (.one 4 [3,0] (.one 6 [5] (sq 7 3 (.one 11 [8,7] (.q 12 .done)))))))) (.one 10 [] (.one 2 [1] (.q 3 (.one 4 [3,0] (.one 6 [5] (sq 7 3 (.one 11 [8,7] (.q 12 .done)))))))))))))] []
def fi7:=fm [2,4] [] []
def fi8:=fm [1,2,3,4,5,10,15,26,38,42,53,60,71] [] []
def fi9:=fm [4] [] []
def fi10:=fm [2] [] []
def fi11:=fm [2,4,5,6,8,9,10,13,31,40,41,42,43,53] [] [(7,([1,2,4,5,6,40,41,42],[8,9,49,58,59]))]
def fi12:=fm [1,2,3,5,7,8,14,23,24,25,26] [] [(8,([2,3,23,24,25],[5,31,32,33]))]
def fi13:=fm [2,4,5,6,7,26,35] [] []
def fi14:=fm [2,3,5,6,7,8,9] [] [(3,([2,3,6,7,8],[5,15,16]))]
def fi15:=fm [4] [] []
def fi16:=fm [1,2] [] []
def fi17:=fm [1,2,3,4,5,10,18,27,41,50,64,77] [] []
def fi18:=fm [3,4,5,6,8,9,10,11,12,14,15,16,17,18,19,20,21,22,33,34,44,48,56,71,83,90,104,107,132,135,136,137,138,154,165,166,167,168,179,191,197] [(1,(sq 0 5 (.alt 5 [4,3,2,1,0] (sq 6 3 (.one 9 [] (.one 10 [7,6] (.q 11 .done)))) (.one 9 [] (.one 5 [4,3,2,1,0] (sq 6 3 (.one 10 [7,6] (.q 11 .done)))))))),(4,(sq 0 8 (.one 8 [7,6,5,4,3,2,1,0] (.q 9 .done)))),(14,(sq 0 7 (.one 7 [6,5,4,3,2,1,0] (.q 8 (.q 9 (.one 10 [9,8] (.q 11 .done))))))),(23,(sq 0 8 (.one 8 [7,6,5,4,3,2,1,0] (.q 9 (.q 10 (.one 11 [10,9] (.q 12 .done))))))),(24,(sq 0 10 (.one 10 [9,8,7,6,5,4,3,2,1,0] (.q 11 (.q 12 (.one 13 [12,11] (.q 14 .done))))))),(42,(sq 0 9 (.one 9 [8,4,3,2,1,0] (.q 10 .done))))] [(17,([0,3,4,5,6,10],[100,116])),(27,([0,3,4,5,6,135,136,137],[14,15,145])),(37,([0,3,4,5,6,17,18,165,166,167],[20,21,175]))]
def fi22:=fm [1,2,30] [] []
def fi23:=fm [2] [] []
def fi24:=fm [4,5,7,8,9,16] [] [(2,([0,1,4,7,8],[]))]
def fi25:=fm [2] [] []
def fi26:=fm [1,2,3,4,8,11,21,26,36,50,61,67] [] []
def fi27:=fm [1,2,3,4,5,8,26,38,46,60] [] []
def fi29:=fm [4] [] []
def fi30:=fm [1,2] [] []
def fi31:=fm [1,2,26] [] []
def fi32:=fm [1,2,3,5,7,8,9,10] [] [(3,([2,3,7,8,9],[5,15]))]
def fi33:=fm [1,2,3,5,7,8,9,10] [] [(3,([2,3,7,8,9],[5,15]))]
def fi34:=fm [2,3,4,5,6,7,8,9,25,26,39,47,59,67,74,83,87] [(2,(sq 0 14 .done))] []
def fi35:=fm [2,4,5,6,8,9,10,11,12,13,14,15,16,17,18,20,21,22,23,33,44,45,52,57,67,74,77,82,87,119,138] [(18,(sq 0 7 (.one 7 [6,5,4,3,2,1] (.one 8 [0] (.q 9 .done))))),(22,(.q 0 (.q 1 (.one 2 [1] (.one 3 [0] (.q 4 .done)))))),(28,(.q 0 (.q 1 (.one 2 [1] (.one 3 [0] (.q 4 .done)))))),(30,(sq 0 6 (.one 6 [] (.q 7 (.one 8 [7,5,4,3,2,1,0] .done))))),(31,(sq 0 17 (.one 17 [16,15,14,13,12,11,10,9,8,7,6,5,4,3,2] (sq 18 3 (.one 21 [20,19,18] (.q 22 (.q 23 (.one 24 [1,0] (.q 25 .done))))))))),(38,(sq 0 10 .done)),(40,(sq 0 4 (.one 4 [3] (.one 5 [2,1,0] (.q 6 (.q 7 (.one 8 [7,6] (.q 9 .done))))))))] [(3,([1,2,4,5,6,20,21,22],[8,9,29,37,38])),(36,([2,4,5,6,11,13,16,17,18],[]))]
def fi36:=fm [4,5,7,8,9,16] [] [(2,([0,1,4,7,8],[16]))]
def fi37:=fm [2] [] []
def fi38:=fm [3,4,5,6,7,8,9,10,13,29] [] []
def fi39:=fm [3,4,5,6,7,8] [] []
def fi40:=fm [2,4] [] []
def fi41:=fm [2,3,4,6] [] []
def fi42:=fm [4,5,6,7,8,9,10,11,19] [] []
def fi43:=fm [1,2] [] []
def fi44:=fm [2,3] [] []
def fi45:=fm [3,4,6,7,8,9,10,12,13,14,15,16,17,28,29,41,53,66,84,87,88,98,108,118,128,138] [(1,(sq 0 9 (.alt 9 [] (.one 10 [] (.one 11 [2,1,0] (.one 12 [8,7,6,5,4,3] .done))) (.one 10 [] (.one 9 [] (.one 11 [2,1,0] (.one 12 [8,7,6,5,4,3] .done))))))),(8,(.q 0 (.q 1 (.one 2 [1] (.q 3 (.one 4 [0] (.q 5 .done))))))),(33,(sq 0 5 (.one 5 [4,3,2,1] (.q 6 (.q 7 (.one 8 [0] (.q 9 .done)))))))] []
def fi51:=fm [4,5,6,7,10,22,37] [(6,(sq 0 15 .done))] []
def fi52:=fm [2,3,4,5,6,7,16] [] []
def fi56:=fm [4,5,7,8,9,16] [] [(2,([0,1,4,7,8],[16]))]
def fi57:=fm [2] [] []
def fi58:=fm [4] [] []
def fi59:=fm [2,3] [] []
def fi60:=fm [2,3] [] []
def fi61:=fm [2,3] [] []
def fi62:=fm [2,3,4] [(1,(sq 0 11 (.q 12 (.q 13 (.one 11 [10,9,8,7,6,5,4,3,2,1,0] (.one 14 [13,12] (sq 15 3 .done)))))))] []
def fi63:=fm [1,2] [] []
def fi64:=fm [2,3,4,5,7,12,13,14,15,18,22] [] [(4,([2,3,4,5,12,13,14],[7,24,27]))]
def fi65:=fm [2,4,5,6,9,14] [] [(5,([1,4,5,6],[22,23]))]
def fi66:=fm [6,7,8,9,10,11,23,26,34,40,63,76,80] [(1,(sq 0 9 (.alt 9 [] (.one 10 [] (.one 11 [2,1,0] (.one 12 [8,7,6,5,4,3] .done))) (.one 10 [] (.one 9 [] (.one 11 [2,1,0] (.one 12 [8,7,6,5,4,3] .done))))))),(8,(.q 0 (.q 1 (.one 2 [1] (.one 3 [0] (.q 4 .done)))))),(10,(sq 0 12 (.one 12 [5,4,3,2,1,0] (.q 13 .done)))),(17,(sq 0 23 (.one 23 [17,16,15,14,13,12,11,10,9,8,7,6,5,4,3,2,1,0] (.q 24 .done))))] []
def fi67:=fm [4,5,12] [] []
def fi68:=fm [4,5,12] [] []
def fi69:=fm [1,2,3,4,9,12] [] []
def fi70:=fm [2,3,4,5,6,7,8,9,13,19,50,55,63,72,84,106] [(5,(sq 0 22 (.q 23 (.q 24 (.one 22 [21,20,19,18,17,16,15,14,13,12,11,10,9,8,7,6,5,4,3,2,1,0] (.one 25 [24,23] (sq 26 4 .done))))))),(17,(sq 0 3 (.q 4 (.q 5 (.one 3 [2] (.one 6 [5,4,1,0] (sq 7 5 .done)))))))] []
def fi71:=fm [8] [] []
def fi72:=fm [4,5,6,7,8,9,16,23,47] [] []
def fi73:=fm [2] [] []
def fi74:=fm [2] [] []
def fi75:=fm [4,5,6,15] [] []
def fi76:=fm [4,5,6,15] [] []
def fi77:=fm [4,5] [] []
def fi78:=fm [4,5,6,9] [] []
def fi79:=fm [4,5,6,7,9] [] []
def fi80:=fm [2,3] [] []
def fi86:=fm [2] [] []
def fi87:=fm [4,5] [] []
def fi88:=fm [4] [] []
def fi89:=fm [0,2,3,4,5,6,7,8,14,24,31,42] [] [(5,([0,2,3,4,5,6],[22])),(7,([0,2,3,4,5,6],[29])),(11,([2,3,4,5,6,7,8],[41,48]))]
def fi93:=fm [4,5,7,8,9,16] [] [(2,([0,1,4,7,8],[16]))]
def fi94:=fm [2,4] [] []
def fi95:=fm [1,2,3,4,10,15] [] []
def fi96:=fm [3,4,5,6,7,8,9,10,12,13,25,26,33,42,51,59] [] []
def fi97:=fm [6,7,8,10,11,12,14,15,16,25,29,52,67,75] [(12,(sq 0 8 .done))] []
def fi98:=fm [1,2,6] [] []
def fi99:=fm [2,3,4,5,8,9,16] [(6,(.q 0 (.q 2 (.one 1 [0] (.one 3 [2] (.q 4 (.q 5 .done))))))),(7,(.q 0 (.q 1 (.q 3 (.q 4 (.one 2 [1,0] (.one 5 [4,3] (.one 6 [] (.q 7 .done)))))))))] []
def fi100:=fm [1,2,3,10] [] []
def fi101:=fm [4,5,6,7,8,9,10,55,62] [] []
def fi108:=fm [4] [] []
def fi120:=fm [4,5,9] [] []
def fi122:=fm [2,3] [] []
def fi123:=fm [4,5,11] [] []
def fi127:=fm [2] [] []
def fi128:=fm [2,3,4,5,9,16] [] []
def fi129:=fm [2,3,4,5,6,7,8,9,17,29,46,49] [] []
def fi130:=fm [2,3,4,6,8,34] [(1,(sq 0 22 (.one 22 [21,20,19,18,17,16,15,14,13,12,11,10,9,8,7,6,5,4,3,2,1,0] (.q 23 (.q 24 .done)))))] []
def fi131:=fm [2,3,4,7,8,9,10] [] [(5,([2,3,4,8,9],[]))]
def fi132:=fm [4,5,9] [] []
def fi133:=fm [2,3,4,5,9] [] []
def fi134:=fm [2,4,5] [] []
def fi135:=fm [4,5,9] [] []
def fi141:=fm [2] [] []
def fi143:=fm [2,3] [] []
def fi144:=fm [2] [] []
def fi150:=fm [4] [] []
def fi154:=fm [2,15] [] []
def fi156:=fm [2,8] [] []
def fi157:=fm [2] [] []
def fi158:=fm [4] [] []
def fi162:=fm [6,7,8,9,34,43] [] [(5,([0,1,6,7,8,9],[49]))]
def fi172:=fm [2,3,6,9,12,19,22] [] []
def fi177:=fm [4,7] [] []
def fi201:=fm [2] [] []
def fi206:=fm [2] [] []
def fi208:=fm [2,3,10] [] []
theorem E_ok:EnvOk Tryz.prog E_0:=envOk_of (by kernel_rfl)
theorem it_ok:ItOk Tryz.prog E_0:=fun _ _ _ h=>h.elim
theorem mixed:Tryz.prog.follows .mixedOrders=true:=by kernel_rfl
theorem ctv{gl:Nat→Option Obj}{C:CallT}(hC:CallsOk prog gl C)(fn:Func)(fi:Fi){f:Nat}{args:List R}{Q:KT}(hex:∃res fin,Q res fin)(h:vc E_0 C noI fi (fn.body.getD .skip) fn.results.toList args Q)(hf:prog.funcs[f]? = some fn:=by kernel_rfl)(hb:fn.body=some (fn.body.getD .skip):=by kernel_rfl)(hn:(fn.name == "runtime.NumGoroutine")=false:=by kernel_rfl)(hN:Nat.ble args.length fn.ntmps=true:=by kernel_rfl)(hc:codeB fn.ntmps fi.sc false (fn.body.getD .skip)=true:=by kernel_rfl):Ct prog gl f args Q:=
 ct_of_vc E_ok hC ioK_no it_ok mixed hf hb hn (fi:=fi) hN hc hex h
end Go.Proofs.Tryz
namespace Go.Ex
open Go Go.Dm
def in64(n:Int):Prop:=-9223372036854775808≤n∧n<9223372036854775808
structure Ty where
 k:Int
 sc:Int
 deriving DecidableEq
structure AV where
 t:Ty
 nul:Bool
 n:Int
 s:ByteArray
abbrev Ty.cs(t:Ty):List D:=[.v (.int .i64 t.k),.v (.int .i64 t.sc)]
abbrev AV.cs(v:AV):List D:=[.v (.int .i64 v.t.k),.v (.int .i64 v.t.sc),.v (.bool v.nul),.v (.int .i64 v.n),.v (.string v.s)]
inductive EX where
 |mk (op sub:Int) (ty:Ty) (v:AV) (args:List EX)
def EX.op:EX→Int | .mk a _ _ _ _=>a
mutual
def cells:EX→List D
 | .mk op sub ty v args=>[.v (.int .i64 op),.v (.int .i64 sub),.v (.int .i64 ty.k),.v (.int .i64 ty.sc),.v (.int .i64 v.t.k),.v (.int .i64 v.t.sc),.v (.bool v.nul),.v (.int .i64 v.n),.v (.string v.s),.sl (cellsL args)]
def cellsL:List EX→List (List D)
 |[]=>[]
 |e::r=>cells e::cellsL r
end
theorem cellsL_map:∀l:List EX,cellsL l=l.map cells
 |[]=>by simp[cellsL]
 |e::r=>by simp[cellsL,cellsL_map r]
theorem cellsL_len(l:List EX):(cellsL l).length=l.length:=by rw[cellsL_map,List.length_map]
theorem cellsL_get{l:List EX}{i:Nat}{e:EX}(h:l[i]? = some e):(cellsL l)[i]? = some (cells e):=by rw[cellsL_map,List.getElem?_map,h];rfl
theorem cellsL_all{l:List EX}:∀c∈cellsL l,c.length=10:=by
 intro c hc
 rw[cellsL_map]at hc
 obtain⟨e,_,rfl⟩:=List.mem_map.1 hc
 cases e;simp[cells]
theorem cellsL_append(a b:List EX):cellsL (a++b)=cellsL a++cellsL b:=by simp[cellsL_map]
mutual
def size:EX→Nat
 | .mk _ _ _ _ args=>sizeL args+1
def sizeL:List EX→Nat
 |[]=>0
 |e::r=>size e+sizeL r
end
theorem size_mem{l:List EX}{e:EX}(h:e∈l):size e≤sizeL l:=by
 induction l with
 |nil=>cases h
 |cons a r ih=>
  simp only[sizeL]
  cases h with
  |head=>omega
  |tail _ h=>have:=ih h;omega
theorem size_arg{op sub:Int}{ty:Ty}{v:AV}{args:List EX}{e:EX}(h:e∈args):size e<size (.mk op sub ty v args):=by
 have:=size_mem h
 simp only[size];omega
mutual
def fits:EX→Prop
 | .mk op sub ty v args=>(in64 op∧in64 sub∧in64 ty.k∧in64 ty.sc∧in64 v.t.k∧in64 v.t.sc∧in64 v.n)∧args.length≤1353245080300∧fitsL args
def fitsL:List EX→Prop
 |[]=>True
 |e::r=>fits e∧fitsL r
end
theorem fitsL_mem{l:List EX}{e:EX}(hl:fitsL l)(h:e∈l):fits e:=by
 induction l with
 |nil=>cases h
 |cons a r ih=>
  simp only[fitsL]at hl
  cases h with
  |head=>exact hl.1
  |tail _ h=>exact ih hl.2 h
mutual
def nodes:EX→Int
 | .mk _ _ _ _ args=>nodesL 1 args
def nodesL(n:Int):List EX→Int
 |[]=>n
 |e::r=>nodesL (IntKind.i64.wrap (n+nodes e)) r
end
theorem nodesL_snoc(l:List EX)(e:EX):∀n,nodesL n (l++[e])=IntKind.i64.wrap (nodesL n l+nodes e):=by
 induction l with
 |nil=>intro n;simp[nodesL]
 |cons a r ih=>intro n;simp only[List.cons_append,nodesL];exact ih _
mutual
def deep:EX→Int
 | .mk _ _ _ _ args=>IntKind.i64.wrap (deepL 0 args+1)
def deepL(n:Int):List EX→Int
 |[]=>n
 |e::r=>deepL (if n<deep e then deep e else n) r
end
theorem deepL_snoc(l:List EX)(e:EX):∀n,deepL n (l++[e])=if deepL n l<deep e then deep e else deepL n l:=by
 induction l with
 |nil=>
  intro n
  have h1:deepL n []=n:=by simp only[deepL]
  have h2:deepL n [e]=(if n<deep e then deep e else n):=by simp only[deepL]
  rw[List.nil_append,h2,h1]
 |cons a r ih=>intro n;simp only[List.cons_append,deepL];exact ih _
end Go.Ex
namespace Go.Ex
open Go Go.Dm
def newSub(to:List Int)(op sub:Int):Option Int:=if op=1 then(if sub<0 then none else match to[sub.toNat]? with|none=>none|some s=>if s<0 then none else some s)else some sub
mutual
def shiftE(to:List Int):EX→Option EX
 | .mk op sub t v args=>
   match newSub to op sub,shiftL to args with
   |some s,some l=>some (.mk op s t v l)
   |_,_=>none
def shiftL(to:List Int):List EX→Option (List EX)
 |[]=>some []
 |e::r=>match shiftE to e,shiftL to r with
  |some x,some l=>some (x::l)
  |_,_=>none
end
theorem shiftL_append(to:List Int)(l r:List EX):shiftL to (l++r)=match shiftL to l,shiftL to r with|some a,some b=>some (a++b)|_,_=>none:=by
 induction l with
 |nil=>simp only[List.nil_append,shiftL];cases shiftL to r<;>rfl
 |cons e l ih=>
  simp only[List.cons_append,shiftL,ih]
  cases shiftE to e<;>cases shiftL to l<;>cases shiftL to r<;>rfl
end Go.Ex
namespace Go.Proofs.Tryz
open Go Go.Dm Go.Ex
set_option maxRecDepth 100000
variable {gl:Nat→Option Obj}
theorem wrap_i64_of{n:Int}(h1:-9223372036854775808≤n)(h2:n<9223372036854775808):IntKind.i64.wrap n=n:=by
 simp[IntKind.wrap,IntKind.signed,IntKind.bits];split<;>omega
theorem wrap_next{i:Nat}(h:i<9223372036854775807):IntKind.i64.wrap ((i:Int)+1)=((i+1:Nat):Int):=by
 rw[wrap_i64_of (by omega) (by omega)];omega
def C_n:CallT:=fun _ _ _=>False
theorem C_n_ok:CallsOk prog gl C_n:=fun _ _ _ h=>h.elim
def encX(op sub:Int)(t:Ty)(v:Go.Ex.AV)(es:List (List D)):List D:=[.v (.int .i64 op),.v (.int .i64 sub),.v (.int .i64 t.k),.v (.int .i64 t.sc),.v (.int .i64 v.t.k),.v (.int .i64 v.t.sc),.v (.bool v.nul),.v (.int .i64 v.n),.v (.string v.s),.sl es]
theorem cells_mk(op sub:Int)(t:Ty)(v:Go.Ex.AV)(args:List EX):cells (.mk op sub t v args)=encX op sub t v (cellsL args):=by simp[cells,encX]
theorem fits_mk{op sub:Int}{t:Ty}{v:Go.Ex.AV}{args:List EX}(h:fits (.mk op sub t v args)):(in64 op∧in64 sub∧in64 t.k∧in64 t.sc∧in64 v.t.k∧in64 v.t.sc∧in64 v.n)∧args.length≤1353245080300∧fitsL args:=by
 simpa[fits]using h
theorem arg_get{l:List EX}{i:Nat}(hi:i<l.length):∃op sub t v a,l[i] = .mk op sub t v a∧(cellsL l)[((i:Nat):Int).toNat]? = some (encX op sub t v (cellsL a)):=by
 rcases h:l[i]with⟨op,sub,t,v,a⟩
 refine⟨op,sub,t,v,a,rfl,?_⟩
 rw[Int.toNat_natCast,←cells_mk,←h]
 exact cellsL_get (List.getElem?_eq_getElem hi)
def c_61(n:Nat)(a:List R)(K:KT):Prop:=match a with
 |[.agg x]=>∃e:EX,x=cells e∧size e<n∧fits e∧K [.d (.v (.int .i64 (nodes e)))] []
 |_=>False
def C_f61(n:Nat):CallT:=addC C_n 32 (c_61 n)
def st_61(op sub:Int)(t:Ty)(v:Go.Ex.AV)(args:List EX)(x:Nat):St:={tm:=[(2,.d (.v (.int .i64 0))),(3,.d (.v (.int .i64 (nodesL 1 (args.take x))))),(7,.d (.sl (cellsL args))),(8,.d (.v (.int .i64 ((cellsL args).length:Int)))),(9,.d (.v (.int .i64 (x:Int))))],hp:=[(1,.box [.d (.v (.int .i64 op)),.d (.v (.int .i64 sub)),.d (.v (.int .i64 t.k)),.d (.v (.int .i64 t.sc)),.d (.v (.int .i64 v.t.k)),.d (.v (.int .i64 v.t.sc)),.d (.v (.bool v.nul)),.d (.v (.int .i64 v.n)),.d (.v (.string v.s)),.d (.sl (cellsL args))])],kn:=[],gd:=[]}
def inv_n(l:List EX)(m:Nat)(x:Nat):Prop:=x≤l.length∧m=l.length-x
def fx_61(op sub:Int)(t:Ty)(v:Go.Ex.AV)(args:List EX):Fi:={fi32 with lx:=[(3,{X:=Nat,sh:=st_61 op sub t v args,P:=fun _=>inv_n args})]}
def Zej(k:(List (List D))→Prop):Prop:=∃(es:List (List D)),k es
def Zb6(a0:List EX)(k:(List (List D))→Prop):Prop:=Zej fun es=>D.sl (cellsL a0)=D.sl es∧k es
def Zdm(a0:Int)(a1:List EX)(a2:List (List D))(a3 a4:Int)(a5:Ty)(a6:Go.Ex.AV):St:={tm:=[(2,.i 0),(3,.i a0),(7,.d (.sl (cellsL a1))),(8,.i (↑a2.length:Int)),(9,.i 0)],hp:=[(1,.box [.i a3,.i a4,.i a5.1,.i a5.2,.i a6.1.1,.i a6.1.2,.d (.v (.bool a6.2)),.i a6.3,.d (.v (.string a6.4)),.d (.sl (cellsL a1))])],kn:=[],gd:=[]:St}
def Zda(a0:Nat)(a1:List EX)(a2 a3:Int)(a4:Ty)(a5:Go.Ex.AV):St:={tm:=[(2,.i 0),(3,.i (nodesL (1:Int) (List.take a0 a1))),(7,.d (.sl (cellsL a1))),(8,.i (↑(cellsL a1).length:Int)),(9,.i (↑a0:Int))],hp:=[(1,.box [.i a2,.i a3,.i a4.1,.i a4.2,.i a5.1.1,.i a5.1.2,.d (.v (.bool a5.2)),.i a5.3,.d (.v (.string a5.4)),.d (.sl (cellsL a1))])],kn:=[],gd:=[]:St}
def Zcf(a0:Nat)(a1:List (List D))(k:(List D)→Prop):Prop:=(0≤(↑a0:Int)∧(↑a0:Int)<(↑a1.length:Int))∧∃(cells:List D),a1[(↑a0:Int).toNat]? = some cells∧k cells
def Zep(a0:Nat)(a1:List EX)(k:(List D)→Prop):Prop:=decide ((↑a0:Int)<(↑(cellsL a1).length:Int))=true→Zb6 a1 fun es=>Zcf a0 es fun cells=>k cells
def Zcs(a0 a1 a2 a3 a4 a5:Int)(a6:Bool)(a7:Int)(a8:ByteArray)(a9:List (List D)):List D:=[.i a0,.i a1,.i a2,.i a3,.i a4,.i a5,.v (.bool a6),.i a7,.v (.string a8),.sl a9]
def Z1(a0:List D)(k:Int→Int→Int→Int→Int→Int→Bool→Int→ByteArray→(List (List D))→EX→Prop):Prop:=a0.length=10∧∃(n_2 n_3 n_4 n_5 n_6 n_7:Int),∃(b:Bool),∃(n_8:Int),∃(b_1:ByteArray),Zej fun es=>cut 0 10 a0=some (Zcs n_2 n_3 n_4 n_5 n_6 n_7 b n_8 b_1 es)∧∃(e:EX),k n_2 n_3 n_4 n_5 n_6 n_7 b n_8 b_1 es e
def Zdc(a0 a1 a2 a3 a4 a5:Int)(a6:Bool)(a7:Int)(a8:ByteArray)(a9:List (List D))(a10:EX)(k:Prop):Prop:=(Zcs a0 a1 a2 a3 a4 a5 a6 a7 a8 a9)=Ex.cells a10∧k
def Zbj(a0:Nat)(a1:List EX)(a2:Nat)(k:EX→Prop):Prop:=Zep a0 a1 fun cells=>Z1 cells fun n_2 n_3 n_4 n_5 n_6 n_7 b n_8 b_1 es e=>Zdc n_2 n_3 n_4 n_5 n_6 n_7 b n_8 b_1 es e (size e<a2∧fits e∧k e)
def Zdt(k:Nat→Nat→Prop):Prop:=∃(m x':Nat),k m x'
def Zb8(a0:Nat)(a1:List EX)(a2:Nat)(k:EX→Nat→Nat→Prop):Prop:=Zbj a0 a1 a2 fun e=>Zdt fun m x'=>k e m x'
def Zca(a0:Nat)(a1:List EX)(a2 a3:Nat)(k:EX→Nat→Nat→Prop):Prop:=Zb8 a0 a1 a2 fun e m x'=>m<a3∧k e m x'
theorem vc61(n:Nat)(op sub:Int)(t:Ty)(v:Go.Ex.AV)(args:List EX)(Q:KT):vc E_0 (C_f61 n) noI (fx_61 op sub t v args) (f32.body.getD .skip) f32.results.toList [.agg (encX op sub t v (cellsL args))] Q=(Zb6 args fun es=>∃(x0:Nat),((Zdm (1:Int) args es op sub t v)=(Zda x0 args op sub t v)∧∃(n:Nat),inv_n args n x0)∧∀(n_1:Nat) (x:Nat),inv_n args n_1 x→(Zca x args n n_1 fun e m x'=>{tm:=[(2,.i 0),(3,.i (IntKind.i64.wrap (nodesL (1:Int) (List.take x args)+nodes e))),(7,.d (.sl (cellsL args))),(8,.i (↑(cellsL args).length:Int)),(9,.i (IntKind.i64.wrap ((↑x:Int)+1)))],hp:=[(1,.box [.i op,.i sub,.i t.1,.i t.2,.i v.1.1,.i v.1.2,.d (.v (.bool v.2)),.i v.3,.d (.v (.string v.4)),.d (.sl (cellsL args))])],kn:=[],gd:=[]:St}=(Zda x' args op sub t v)∧inv_n args m x')∧(decide ((↑x:Int)<(↑(cellsL args).length:Int))=false→Q [.d (.i (nodesL (1:Int) (List.take x args)))] [])):=by kernel_rfl
theorem ct61:∀(n:Nat) (e:EX),size e<n→fits e→Ct prog gl 32 [.agg (cells e)] (gives [.d (.v (.int .i64 (nodes e)))])
 |0,e,h,_=>absurd h (Nat.not_lt_zero _)
 |n+1,.mk op sub t v args,h,hf=>by
  have hC:CallsOk prog gl (C_f61 n):=addC_ok C_n_ok (fun a K hk=>by
   unfold c_61 at hk
   split at hk
   ·obtain⟨e,rfl,h1,h2,h3⟩:=hk
    exact(ct61 n e h1 h2).gives h3
   ·exact hk.elim)
  rw[cells_mk]
  refine ct_of_vc E_ok hC ioK_no it_ok mixed (fn:=f32) (body:=f32.body.getD .skip) (by kernel_rfl) (by kernel_rfl) (by kernel_rfl) (fi:=fx_61 op sub t v args) (by kernel_rfl) (by kernel_rfl) ⟨_,_,rfl,rfl⟩ ?_
  rw[vc61];dsimp -eta -iota -proj only[Zb6,Zej,Zdm,Zda,Zca,Zb8,Zbj,Zep,Zcf,Z1,Zcs,Zdc,Zdt]
  obtain⟨_,hl,hfl⟩:=fits_mk hf
  have hsz:∀e∈args,size e<n:=fun e he=>by have:=size_arg (op:=op) (sub:=sub) (ty:=t) (v:=v) he;omega
  refine⟨cellsL args,rfl,(0:Nat),⟨by simp only[List.take_zero,nodesL];rfl,args.length,Nat.zero_le _,rfl⟩,fun m (x:Nat) hx=>⟨fun hi=>?_,fun hi=>?_⟩⟩
  ·have hi:x<args.length:=by simpa[cellsL_len]using hi
   obtain⟨op',sub',t',v',a',he,hget⟩:=arg_get hi
   have hm:=hx.2
   refine⟨cellsL args,rfl,⟨by omega,by rw[cellsL_len];omega⟩,_,hget,rfl,op',sub',t'.k,t'.sc,v'.t.k,v'.t.sc,v'.nul,v'.n,v'.s,cellsL a',rfl,args[x],by rw[he,cells_mk];rfl,hsz _ (List.getElem_mem hi),fitsL_mem hfl (List.getElem_mem hi),args.length-(x+1),x+1,by omega,?_,hi,rfl⟩
   rw[wrap_next (by omega),List.take_add_one,List.getElem?_eq_getElem hi,Option.toList_some,nodesL_snoc]
  ·have hi:¬x<args.length:=by simpa[cellsL_len]using hi
   rw[List.take_of_length_le (by omega)]
   refine⟨?_,rfl⟩
   simp only[nodes]
def c_62(n:Nat)(a:List R)(K:KT):Prop:=match a with
 |[.agg x]=>∃e:EX,x=cells e∧size e<n∧fits e∧K [.d (.v (.int .i64 (deep e)))] []
 |_=>False
def C_f62(n:Nat):CallT:=addC C_n 33 (c_62 n)
def st_62(op sub:Int)(t:Ty)(v:Go.Ex.AV)(args:List EX)(x:Nat):St:={tm:=[(2,.d (.v (.int .i64 0))),(3,.d (.v (.int .i64 (deepL 0 (args.take x))))),(7,.d (.sl (cellsL args))),(8,.d (.v (.int .i64 ((cellsL args).length:Int)))),(9,.d (.v (.int .i64 (x:Int))))],hp:=[(1,.box [.d (.v (.int .i64 op)),.d (.v (.int .i64 sub)),.d (.v (.int .i64 t.k)),.d (.v (.int .i64 t.sc)),.d (.v (.int .i64 v.t.k)),.d (.v (.int .i64 v.t.sc)),.d (.v (.bool v.nul)),.d (.v (.int .i64 v.n)),.d (.v (.string v.s)),.d (.sl (cellsL args))])],kn:=[],gd:=[]}
def fx_62(op sub:Int)(t:Ty)(v:Go.Ex.AV)(args:List EX):Fi:={fi33 with lx:=[(3,{X:=Nat,sh:=st_62 op sub t v args,P:=fun _=>inv_n args})]}
def Zdb(a0:Nat)(a1:List EX)(a2 a3:Int)(a4:Ty)(a5:Go.Ex.AV):St:={tm:=[(2,.i 0),(3,.i (deepL (0:Int) (List.take a0 a1))),(7,.d (.sl (cellsL a1))),(8,.i (↑(cellsL a1).length:Int)),(9,.i (↑a0:Int))],hp:=[(1,.box [.i a2,.i a3,.i a4.1,.i a4.2,.i a5.1.1,.i a5.1.2,.d (.v (.bool a5.2)),.i a5.3,.d (.v (.string a5.4)),.d (.sl (cellsL a1))])],kn:=[],gd:=[]:St}
theorem vc62(n:Nat)(op sub:Int)(t:Ty)(v:Go.Ex.AV)(args:List EX)(Q:KT):vc E_0 (C_f62 n) noI (fx_62 op sub t v args) (f33.body.getD .skip) f33.results.toList [.agg (encX op sub t v (cellsL args))] Q=(Zb6 args fun es=>∃(x0:Nat),((Zdm (0:Int) args es op sub t v)=(Zdb x0 args op sub t v)∧∃(n:Nat),inv_n args n x0)∧∀(n_1:Nat) (x:Nat),inv_n args n_1 x→(Zca x args n n_1 fun e m x'=>{tm:=[(2,.i 0),(3,.i (if deep e>deepL (0:Int) (List.take x args)then deep e else deepL (0:Int) (List.take x args))),(7,.d (.sl (cellsL args))),(8,.i (↑(cellsL args).length:Int)),(9,.i (IntKind.i64.wrap ((↑x:Int)+1)))],hp:=[(1,.box [.i op,.i sub,.i t.1,.i t.2,.i v.1.1,.i v.1.2,.d (.v (.bool v.2)),.i v.3,.d (.v (.string v.4)),.d (.sl (cellsL args))])],kn:=[],gd:=[]:St}=(Zdb x' args op sub t v)∧inv_n args m x')∧(decide ((↑x:Int)<(↑(cellsL args).length:Int))=false→Q [.d (.i (IntKind.i64.wrap (deepL (0:Int) (List.take x args)+(1:Int))))] [])):=by kernel_rfl
end Go.Proofs.Tryz
