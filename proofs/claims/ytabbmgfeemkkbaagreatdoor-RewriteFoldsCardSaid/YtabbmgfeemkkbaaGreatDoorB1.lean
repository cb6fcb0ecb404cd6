/- Part of the proof: contracts of functions; no condition. -/
import Derived.Test.YtabbmgfeemkkbaaGreatDoorDm21
import Derived.Test.YtabbmgfeemkkbaaGreatDoorProg
import Derived.KernelRfl
namespace Go.Proofs.Tryz
open Go Go.Dm
set_option maxRecDepth 100000
def bM:TI:={agg:=false,ck:=[.fn],bytes:=8,td:=.other}
def T1z:TI:={agg:=false,ck:=[.int .i64],bytes:=8,td:=.plain}
def T2z:TI:={agg:=false,ck:=[.int .u8],bytes:=1,td:=.plain}
def T3z:TI:={agg:=true,ck:=[.int .i64,.int .i64,.bool,.int .u8],bytes:=24,td:=.struct [(0,2),(1,3),(2,4),(3,6)],eq:=true}
def T4z:TI:={agg:=false,ck:=[.str],bytes:=16,td:=.plain}
def T5z:TI:={agg:=false,ck:=[.int .u64],bytes:=8,td:=.plain}
def T6z:TI:={agg:=true,ck:=[.str,.int .u64],bytes:=24,td:=.struct [(0,9),(1,12)]}
def T7z:TI:={agg:=true,ck:=[.ptr],bytes:=8,td:=.struct [(0,17)]}
def T8z:TI:={agg:=false,ck:=[.iface],bytes:=16,td:=.iface}
def T9z:TI:={agg:=false,ck:=[.int .i32],bytes:=4,td:=.plain}
def Yb:TI:={agg:=true,ck:=[.int .i64,.int .i64],bytes:=16,td:=.struct [(0,3),(1,3)],eq:=true}
def Yc:TI:={agg:=true,ck:=[.int .i64,.int .i64,.bool,.int .i64,.str],bytes:=48,td:=.struct [(0,23),(2,4),(3,2),(4,9)],eq:=true}
def Yd:TI:={agg:=true,ck:=[.int .i64,.int .i64,.int .i64,.int .i64,.int .i64,.int .i64,.bool,.int .i64,.str,.sl],bytes:=104,td:=.struct [(0,3),(1,3),(2,23),(4,25),(9,26)]}
def Ye:TI:={agg:=true,ck:=[.sl,.sl],bytes:=48,td:=.struct [(0,37),(1,29)]}
def Yf:TI:={agg:=true,ck:=[.int .i64,.int .u64],bytes:=16,td:=.struct [(0,2),(1,100)],eq:=true}
def Yg:TI:={agg:=true,ck:=[.ptr,.sl],bytes:=32,td:=.struct [(0,175),(1,104)]}
def Yh:TI:={agg:=true,ck:=[.bool,.bool,.bool,.bool,.bool,.bool,.bool,.bool,.bool,.bool,.bool,.bool,.bool,.bool,.bool,.bool,.bool,.bool,.bool,.bool,.bool,.bool,.bool,.bool,.bool,.bool,.bool,.bool,.bool,.bool,.bool,.bool,.bool,.bool,.bool,.bool,.bool,.bool,.bool,.bool,.bool,.bool,.bool,.bool,.bool,.bool,.bool,.bool,.bool,.bool,.bool,.bool,.bool,.bool,.bool,.bool,.bool,.bool,.bool,.bool,.bool,.bool,.bool,.bool,.bool,.bool,.bool,.bool,.bool,.bool,.bool,.bool,.bool,.bool,.bool,.bool,.bool,.bool,.bool,.bool,.bool,.bool,.bool,.bool,.bool,.bool,.bool,.bool,.bool,.bool,.bool,.bool,.bool,.bool,.bool,.bool,.bool,.bool,.bool,.bool,.bool,.bool,.bool,.bool,.bool,.bool,.bool,.bool,.bool,.bool,.bool,.bool,.bool,.bool,.bool,.bool,.bool,.bool,.bool,.bool,.bool,.bool,.bool,.bool,.bool,.bool,.bool,.bool,.bool,.bool,.bool,.bool,.bool,.bool,.bool,.bool,.bool,.bool,.bool,.bool,.bool,.bool,.bool,.bool,.bool,.bool,.bool,.bool,.bool,.bool,.bool,.bool,.bool,.bool,.bool,.bool,.bool,.bool,.bool,.bool,.bool,.bool,.bool,.bool,.bool,.bool,.bool,.bool,.bool,.bool,.bool,.bool,.bool,.bool,.bool,.bool,.bool,.bool,.bool,.bool,.bool,.bool,.bool,.bool,.bool,.bool,.bool,.bool,.bool,.bool,.bool,.bool,.bool,.bool,.bool,.bool,.bool,.bool,.bool,.bool,.bool,.bool,.bool,.bool,.bool,.bool,.bool,.bool,.bool,.bool,.bool,.bool,.bool,.bool,.bool,.bool,.bool,.bool,.bool,.bool,.bool,.bool,.bool,.bool,.bool,.bool,.bool,.bool,.bool,.bool,.bool,.bool,.bool,.bool,.bool,.bool,.bool,.bool,.bool,.bool,.bool,.bool,.bool,.bool,.bool,.bool,.bool,.bool,.bool,.bool,.bool,.bool,.bool,.bool,.bool,.bool],bytes:=256,td:=.arr 256 4}
def Yi:TI:={agg:=true,ck:=[.int .u8,.int .u8],bytes:=2,td:=.struct [(0,5),(1,5)],eq:=true}
def Yj:TI:={agg:=true,ck:=[.str,.str,.iface],bytes:=48,td:=.struct [(0,9),(1,9),(2,162)]}
def Yk:TI:={agg:=true,ck:=[.str],bytes:=16,td:=.struct [(0,9)],eq:=true}
def Yl:TI:={agg:=true,ck:=[.ptr,.ptr,.ptr,.str],bytes:=40,td:=.struct [(0,17),(1,17),(2,17),(3,9)]}
def Ym:TI:={agg:=true,ck:=[.int .u64,.int .u64,.int .u32,.int .u8,.int .u8,.int .u8,.int .u8,.fn,.ptr,.int .i32,.int .i32],bytes:=48,td:=.struct [(0,12),(1,12),(2,220),(3,247),(4,5),(5,5),(6,248),(7,249),(8,188),(9,250),(10,251)]}
def fm(k:List Nat)(s:List (Nat×js))(l:List (Nat×(List Nat×List Nat))):Fi:={keep:=k,sc:=s,lp:=l}
def sq:Nat→Nat→js→js
 |_,0,r=>r
 |a,n+1,r=>.q a (sq (a+1) n r)
def ajV:List (Nat×TI):=[
 (1,bM),(2,T1z),(3,T1z),(4,{agg:=false,ck:=[.bool],bytes:=1,td:=.plain}),(5,T2z),(6,T2z),(7,T3z),(8,T3z),(9,T4z),(10,T4z),(11,T4z),(12,T5z),(13,T6z),(14,T6z),
 (15,{agg:=false,ck:=[.ptr],bytes:=8,td:=.ptr 243}),(16,{agg:=false,ck:=[.ptr],bytes:=8,td:=.ptr 246}),(17,{agg:=false,ck:=[.ptr],bytes:=8,td:=.ptr 253}),(18,T7z),(19,T7z),
 (20,T8z),(21,T9z),(22,Yb),(23,Yb),(24,Yc),(25,Yc),(26,{agg:=false,ck:=[.sl],bytes:=24,td:=.slice 28}),(27,Yd),(28,Yd),
 (29,{agg:=false,ck:=[.sl],bytes:=24,td:=.slice 23}),(30,T1z),(32,bM),(33,bM),(34,bM),(35,bM),(36,bM),(37,{agg:=false,ck:=[.sl],bytes:=24,td:=.slice 25}),(38,bM),(40,bM),
 (42,bM),(43,bM),(44,bM),(45,bM),(46,bM),(47,bM),(48,bM),(49,bM),(50,bM),(51,bM),(53,bM),(54,bM),(56,bM),(57,bM),(58,bM),(59,bM),(60,bM),(61,bM),(62,bM),(63,bM),
 (64,{agg:=true,ck:=[.int .i64,.int .i64,.int .i64,.int .i64,.int .i64,.int .i64,.int .i64],bytes:=56,td:=.arr 7 3}),(65,bM),(66,bM),(67,bM),(68,bM),(69,bM),(70,bM),(71,bM),
 (72,bM),(73,bM),(74,bM),(75,bM),(76,bM),(77,bM),(78,bM),(79,bM),(80,bM),(81,bM),(82,bM),(83,bM),(84,bM),(85,bM),(86,bM),(87,bM),(88,bM),(89,bM),(90,bM),(91,bM),
 (92,{agg:=false,ck:=[.ptr],bytes:=8,td:=.ptr 94}),(93,Ye),(94,Ye),(95,bM),(96,bM),(97,bM),(98,bM),(99,bM),(100,T5z),(101,bM),(103,bM),
 (104,{agg:=false,ck:=[.sl],bytes:=24,td:=.slice 5}),(105,bM),(106,{agg:=false,ck:=[.sl],bytes:=24,td:=.slice 9}),(107,{agg:=false,ck:=[.sl],bytes:=24,td:=.slice 3}),
 (108,bM),(109,bM),(110,bM),(112,bM),(113,bM),(114,bM),(116,bM),(117,bM),(119,bM),(120,bM),(121,bM),(122,bM),(124,bM),(125,bM),(126,bM),(127,bM),(128,bM),(129,bM),
 (130,bM),(131,bM),(132,bM),(134,bM),(135,bM),(136,bM),(137,bM),(138,bM),(139,Yf),(140,Yf),(141,bM),(143,bM),(144,bM),
 (145,{agg:=true,ck:=[.bool,.bool,.bool,.bool,.bool,.bool,.bool],bytes:=7,td:=.arr 7 4}),(146,bM),(147,bM),(149,bM),(150,bM),(151,T5z),
 (152,{agg:=false,ck:=[.map],bytes:=8,td:=.map 9 2}),(154,bM),(155,bM),(156,bM),(157,bM),(158,bM),(159,bM),(160,bM),(161,T8z),(162,T8z),(164,bM),(166,bM),(168,bM),
 (169,bM),(170,bM),(172,bM),(173,bM),(174,bM),(175,{agg:=false,ck:=[.ptr],bytes:=8,td:=.ptr 177}),(176,Yg),(177,Yg),(179,bM),(180,bM),(181,bM),(182,bM),(183,bM),
 (184,bM),(185,bM),(186,bM),(187,bM),(188,{agg:=false,ck:=[.ptr],bytes:=8,td:=.ptr 5}),(189,bM),(190,Yh),(191,Yh),(193,bM),(194,bM),
 (195,{agg:=false,ck:=[.ptr],bytes:=8,td:=.ptr 191}),(196,bM),(197,T1z),(199,bM),(200,{agg:=false,ck:=[.ptr],bytes:=8,td:=.ptr 225}),(201,bM),(202,bM),
 (203,{agg:=true,ck:=[.int .i64,.int .i64,.int .i64,.int .i64,.int .i64,.int .i64,.int .i64,.int .i64,.int .i64,.int .i64,.int .i64,.int .i64],bytes:=96,td:=.arr 12 3}),
 (204,{agg:=true,ck:=[.int .u8,.int .u8,.int .u8,.int .u8,.int .u8,.int .u8,.int .u8,.int .u8,.int .u8,.int .u8,.int .u8,.int .u8,.int .u8,.int .u8,.int .u8,.int .u8,.int .u8,.int .u8,.int .u8,.int .u8,.int .u8,.int .u8,.int .u8,.int .u8],bytes:=24,td:=.arr 24 5}),
 (205,bM),(206,bM),(208,bM),(209,bM),(210,bM),(212,bM),
 (213,{agg:=true,ck:=[.int .u8,.int .u8,.int .u8,.int .u8,.int .u8,.int .u8,.int .u8,.int .u8,.int .u8,.int .u8,.int .u8,.int .u8,.int .u8,.int .u8,.int .u8,.int .u8,.int .u8,.int .u8,.int .u8,.int .u8,.int .u8,.int .u8,.int .u8,.int .u8,.int .u8,.int .u8,.int .u8,.int .u8,.int .u8,.int .u8,.int .u8,.int .u8,.int .u8,.int .u8,.int .u8,.int .u8,.int .u8,.int .u8,.int .u8,.int .u8,.int .u8,.int .u8,.int .u8,.int .u8,.int .u8,.int .u8,.int .u8,.int .u8,.int .u8,.int .u8,.int .u8,.int .u8,.int .u8,.int .u8,.int .u8,.int .u8,.int .u8,.int .u8,.int .u8,.int .u8,.int .u8,.int .u8,.int .u8,.int .u8,.int .u8,.int .u8,.int .u8,.int .u8,.int .u8,.int .u8,.int .u8,.int .u8,.int .u8,.int .u8,.int .u8,.int .u8,.int .u8,.int .u8,.int .u8,.int .u8,.int .u8,.int .u8,.int .u8,.int .u8,.int .u8,.int .u8,.int .u8,.int .u8,.int .u8,.int .u8,.int .u8,.int .u8,.int .u8,.int .u8,.int .u8,.int .u8,.int .u8,.int .u8,.int .u8,.int .u8,.int .u8,.int .u8,.int .u8,.int .u8,.int .u8,.int .u8,.int .u8,.int .u8,.int .u8,.int .u8,.int .u8,.int .u8,.int .u8,.int .u8,.int .u8,.int .u8,.int .u8,.int .u8,.int .u8,.int .u8,.int .u8,.int .u8,.int .u8,.int .u8,.int .u8,.int .u8,.int .u8,.int .u8,.int .u8,.int .u8,.int .u8,.int .u8,.int .u8,.int .u8,.int .u8,.int .u8,.int .u8,.int .u8,.int .u8,.int .u8,.int .u8,.int .u8,.int .u8,.int .u8,.int .u8,.int .u8,.int .u8,.int .u8,.int .u8,.int .u8,.int .u8,.int .u8,.int .u8,.int .u8,.int .u8,.int .u8,.int .u8,.int .u8,.int .u8,.int .u8,.int .u8,.int .u8,.int .u8,.int .u8,.int .u8,.int .u8,.int .u8,.int .u8,.int .u8,.int .u8,.int .u8,.int .u8,.int .u8,.int .u8,.int .u8,.int .u8,.int .u8,.int .u8,.int .u8,.int .u8,.int .u8,.int .u8,.int .u8,.int .u8,.int .u8,.int .u8,.int .u8,.int .u8,.int .u8,.int .u8,.int .u8,.int .u8,.int .u8,.int .u8,.int .u8,.int .u8,.int .u8,.int .u8,.int .u8,.int .u8,.int .u8,.int .u8,.int .u8,.int .u8,.int .u8,.int .u8,.int .u8,.int .u8,.int .u8,.int .u8,.int .u8,.int .u8,.int .u8,.int .u8,.int .u8,.int .u8,.int .u8,.int .u8,.int .u8,.int .u8,.int .u8,.int .u8,.int .u8,.int .u8,.int .u8,.int .u8,.int .u8,.int .u8,.int .u8,.int .u8,.int .u8,.int .u8,.int .u8,.int .u8,.int .u8,.int .u8,.int .u8,.int .u8,.int .u8,.int .u8,.int .u8,.int .u8,.int .u8,.int .u8,.int .u8,.int .u8,.int .u8,.int .u8,.int .u8,.int .u8,.int .u8,.int .u8,.int .u8,.int .u8,.int .u8,.int .u8],bytes:=256,td:=.arr 256 5}),
 (214,Yi),(215,Yi),
 (216,{agg:=true,ck:=[.int .u8,.int .u8,.int .u8,.int .u8,.int .u8,.int .u8,.int .u8,.int .u8,.int .u8,.int .u8,.int .u8,.int .u8,.int .u8,.int .u8,.int .u8,.int .u8,.int .u8,.int .u8,.int .u8,.int .u8,.int .u8,.int .u8,.int .u8,.int .u8,.int .u8,.int .u8,.int .u8,.int .u8,.int .u8,.int .u8,.int .u8,.int .u8],bytes:=32,td:=.arr 16 215}),
 (218,bM),(219,bM),(220,{agg:=false,ck:=[.int .u32],bytes:=4,td:=.plain}),(221,bM),(222,bM),(223,bM),(224,Yj),(225,Yj),(226,bM),(227,bM),
 (228,{agg:=true,ck:=[.int .u64,.int .u64,.int .u64,.int .u64,.int .u64,.int .u64,.int .u64,.int .u64,.int .u64,.int .u64,.int .u64,.int .u64,.int .u64,.int .u64,.int .u64,.int .u64,.int .u64,.int .u64,.int .u64,.int .u64],bytes:=160,td:=.arr 20 100}),
 (229,{agg:=true,ck:=[.int .u8,.int .u8,.int .u8,.int .u8,.int .u8,.int .u8,.int .u8,.int .u8,.int .u8,.int .u8,.int .u8,.int .u8,.int .u8,.int .u8,.int .u8,.int .u8,.int .u8,.int .u8,.int .u8,.int .u8,.int .u8,.int .u8,.int .u8,.int .u8,.int .u8,.int .u8,.int .u8,.int .u8,.int .u8,.int .u8,.int .u8,.int .u8,.int .u8,.int .u8,.int .u8,.int .u8,.int .u8,.int .u8,.int .u8,.int .u8,.int .u8,.int .u8,.int .u8,.int .u8,.int .u8,.int .u8,.int .u8,.int .u8,.int .u8,.int .u8,.int .u8,.int .u8,.int .u8,.int .u8,.int .u8,.int .u8,.int .u8,.int .u8,.int .u8,.int .u8,.int .u8,.int .u8,.int .u8,.int .u8,.int .u8],bytes:=65,td:=.arr 65 5}),
 (230,bM),(232,bM),(233,bM),(234,{agg:=false,ck:=[.ptr],bytes:=8,td:=.ptr 236}),(235,Yk),(236,Yk),(237,bM),(238,bM),(239,bM),
 (240,{agg:=true,ck:=[.int .u8,.int .u8,.int .u8,.int .u8,.int .u8,.int .u8,.int .u8,.int .u8,.int .u8,.int .u8,.int .u8,.int .u8,.int .u8,.int .u8,.int .u8,.int .u8,.int .u8,.int .u8,.int .u8,.int .u8,.int .u8,.int .u8,.int .u8,.int .u8,.int .u8,.int .u8,.int .u8,.int .u8,.int .u8,.int .u8,.int .u8,.int .u8],bytes:=32,td:=.arr 32 5}),
 (241,{agg:=true,ck:=[.int .u8,.int .u8,.int .u8,.int .u8,.int .u8,.int .u8,.int .u8,.int .u8,.int .u8,.int .u8,.int .u8,.int .u8,.int .u8,.int .u8,.int .u8,.int .u8,.int .u8,.int .u8,.int .u8,.int .u8,.int .u8,.int .u8,.int .u8,.int .u8,.int .u8,.int .u8,.int .u8,.int .u8,.int .u8,.int .u8,.int .u8,.int .u8,.int .u8,.int .u8,.int .u8,.int .u8,.int .u8,.int .u8,.int .u8,.int .u8,.int .u8,.int .u8,.int .u8,.int .u8,.int .u8,.int .u8,.int .u8,.int .u8,.int .u8,.int .u8,.int .u8,.int .u8,.int .u8,.int .u8,.int .u8,.int .u8,.int .u8,.int .u8,.int .u8,.int .u8,.int .u8,.int .u8,.int .u8,.int .u8],bytes:=64,td:=.arr 64 5}),
 (242,Yl),(243,Yl),(247,T2z),(248,T2z),(249,bM),(250,T9z),(251,T9z),(252,Ym),(253,Ym)]
def bl:Env:={te:=ajV}
def fi3:=fm [2,4,5,6,7,8] [] []
def fi5:=fm [2,4,5,7,15] [] []
def fi6:=fm [2,4,5,7,15] [] []
def fi7:=fm [0,1,2,3] [] []
def fi8:=fm [2,3,4,5,40,45,59] [(6,(sq 0 10 (.one 10 [9,8,7,6,5,4,3,2,1,0] (.q 11 .done))))] [(4,([2,3,4,5],[58]))]
def fi9:=fm [2,3,4,8] [] [(3,([0,2,3,4],[17,18]))]
def ajW:=fm [2,4,5,6,7,8,12,20,36,45] [] [(2,([1,2,4,5,6],[19]))]
def ajX:=fm [2,4,5,6,8,9,10,11,21,27,35,45] [] [(6,([1,2,4,5,6,9],[34]))]
def Yn:=fm [2,4,5,6,7,26,35] [] []
def Yo:=fm [2,4,5,6,7,8,9,10,11,13,14,15,16,32,39,43,44,58,63,72,79,80,86,94,116,118,132] [(10,(sq 0 8 (.alt 8 [] (.one 9 [] (.one 10 [3,2,1,0] (.one 11 [7,6,5,4] .done))) (.one 9 [] (.one 8 [] (.one 10 [3,2,1,0] (.one 11 [7,6,5,4] .done)))))))] []
def ajY:=fm [2,4,5,6,7,8,9,10,11,23,45,52,56,57,62,66,71,85] [] [(5,([1,2,4,5,6,7],[8,32,36,37]))]
def Yp:=fm [2] [] []
def Yq:=fm [2,3,6] [] []
def Gl:=fm [1,2,3,4,6,7,13,25] [] [(8,([1,2,3,4],[34]))]
def Yr:=fm [1,2,30] [] []
def ajZ:=fm [1,2,3,4,9] [] [(3,([1,2,3,4],[18]))]
def aj0:=fm [1,2,3,4,9] [] [(3,([1,2,3,4],[18]))]
def aj1:=fm [2,4,5,6,7,20,21,38,50,66,100,105,115] [] [(19,([1,2,4,7],[114]))]
def aj2:=fm [2,4,5,6,7,8,9,14,28,35,36,43,48,58,65,68,76,87,92] [(15,(sq 1 6 (.one 0 [] (.one 7 [6,5,4,3,2,1] (.one 8 [] (.q 9 .done)))))),(26,(sq 0 8 (.one 8 [7,6,5,4,3,2] (.one 9 [1,0] (.q 10 .done)))))] [(3,([1,2,4,5,6,7],[8,24,32,33]))]
def OD:=fm [1,2,3,4,5,10,15,26,38,42,53,60,71] [] []
def aj3:=fm [3,6,7,8,10,11,12,13,14,15,16,17,25,26,33,37,46,55,61,81,94,109,121,122,130,134,144] [(36,(sq 0 5 (.one 5 [4,3,2,1,0] (.q 6 (.q 7 (.one 8 [7,6] (.q 9 .done)))))))] [(14,([1,2,3,6,7,8,10],[11,72,85])),(23,([1,2,3,6,7,8,13,14,15],[16,105,118,119]))]
def OE:=fm [4] [] []
def Ys:=fm [1,2] [] []
def Yt:=fm [1,2,26] [] []
def aj4:=fm [1,2,3,5,7,8,9,10] [] [(3,([2,3,7,8,9],[5,15]))]
def aj5:=fm [1,2,3,5,7,8,9,10] [] [(3,([2,3,7,8,9],[5,15]))]
def Yu:=fm [2,3,4,5,6,7,8,9,25,26,39,47,59,67,74,83,87] [(2,(sq 0 14 .done))] []
def aj6:=fm [2,4,5,6,8,9,10,11,12,13,14,15,16,17,18,20,21,22,23,33,44,45,52,57,67,74,77,82,87,119,138] [(18,(sq 0 7 (.one 7 [6,5,4,3,2,1] (.one 8 [0] (.q 9 .done))))),(22,(.q 0 (.q 1 (.one 2 [1] (.one 3 [0] (.q 4 .done)))))),(28,(.q 0 (.q 1 (.one 2 [1] (.one 3 [0] (.q 4 .done)))))),(30,(sq 0 6 (.one 6 [] (.q 7 (.one 8 [7,5,4,3,2,1,0] .done))))),(31,(sq 0 17 (.one 17 [16,15,14,13,12,11,10,9,8,7,6,5,4,3,2] (sq 18 3 (.one 21 [20,19,18] (.q 22 (.q 23 (.one 24 [1,0] (.q 25 .done))))))))),(38,(sq 0 10 .done)),(40,(sq 0 4 (.one 4 [3] (.one 5 [2,1,0] (.q 6 (.q 7 (.one 8 [7,6] (.q 9 .done))))))))] [(3,([1,2,4,5,6,20,21,22],[8,9,29,37,38])),(36,([2,4,5,6,11,13,16,17,18],[]))]
def aj7:=fm [4,5,7,8,9,10,11] [] [(3,([1,4,5,8,9,10],[7,17,18,19]))]
def OF:=fm [4] [] []
def OG:=fm [1,2] [] []
def Yv:=fm [2,4,5,7,8,9,18,22,35] [(1,(.q 0 (.q 1 (.alt 2 [1] (.alt 3 [0] (sq 4 3 (.one 7 [] (.one 8 [5,4] (.q 9 .done)))) (.one 7 [] (.one 3 [0] (sq 4 3 (.one 8 [5,4] (.q 9 .done)))))) (.one 7 [] (.one 2 [1] (.one 3 [0] (sq 4 3 (.one 8 [5,4] (.q 9 .done)))))))))),(6,(.q 0 (.q 1 (.q 5 (.alt 2 [1] (.q 3 (.alt 4 [3,0] (.alt 6 [5] (sq 7 3 (.one 10 [] (.one 11 [8,7] (.q 12 .done)))) (.one 10 [] (.one 6 [5] (sq 7 3 (.one 11 [8,7] (.q 12 .done)))))) (.one 10 [] (.one 4 [3,0] (.one 6 [5] (sq 7 3 (.one 11 [8,7] (.q 12 .done)))))))) (.one 10 [] (.one 2 [1] (.q 3 (.one 4 [3,0] (.one 6 [5] (sq 7 3 (.one 11 [8,7] (.q 12 .done)))))))))))))] []
def Yw:=fm [2,4] [(1,(sq 0 7 (.one 7 [6,3,2,1,0] (sq 8 3 .done))))] []
def aj8:=fm [1,2,3,4,5,21,22,26,34,40] [] [(4,([1,2,3,4],[26,37]))]
def Yx:=fm [1,2] [] []
def Yy:=fm [1,2,3,4,5,17,22,28] [] []
def Yz:=fm [1,2,3,10,17] [] []
def aj9:=fm [2,4,5,6,7,8,9,10,11,13,14,27,36,45,59,84] [(11,(sq 0 8 (.one 8 [7,6,5,4,3,2,1] (.one 9 [0] (.q 10 .done)))))] [(5,([1,2,4,5,6,7,8],[9,36,54,55]))]
def YA:=fm [2] [] []
def YB:=fm [2,4] [] []
def aj_:=fm [1,2,3,4,5,6,7,8,9,11,17,18,22,23,26,38,41,48,55,70,79] [] [(19,([1,2,6,7],[57,58,64,65]))]
def YC:=fm [1,2,3,4,7,9,10,12,14,16,18,20,24,33,50] [] []
def YD:=fm [4,5,6,11,19,28] [] []
def YE:=fm [2] [] []
def YF:=fm [2,3,4] [(1,(.q 0 (.q 1 (.q 3 (.q 4 (.one 2 [1,0] (.one 5 [4,3] (sq 6 12 .done))))))))] []
def aj':=fm [4,5,9,18] [] [(2,([0,1,4,5],[]))]
def aka:=fm [2,4,5,6,7,8,9,10,11,20,47] [] [(4,([1,2,4,5,6,7,8],[31,32])),(9,([1,2,4,5,9,10,11],[]))]
def YG:=fm [2,4] [] []
def YH:=fm [4,5,6,7,8,9,33,34,39,43,45,62,64,82] [(14,(sq 0 15 (.one 15 [7,6,5,4,3,2,1,0] (.q 16 .done)))),(21,(sq 1 3 (.one 0 [] (sq 4 19 (.one 23 [17,16,15,14,13,12,11,10,9,8,7,6,5,4,3,2,1] (.q 24 .done))))))] []
def YI:=fm [2] [] []
def YJ:=fm [3,6,7,8,9,10,11,23,42,56,60] [] []
def akb:=fm [4,5,8,9,10,11,12,13,14,15,16,25,40,44] [] [(4,([2,3,4,5,8,9,10,11,12],[13,36,43]))]
def YK:=fm [3,4,6,7,8,9,11] [] []
def YL:=fm [1,2] [] []
def YM:=fm [2,4] [] []
def YN:=fm [2,3,4,6] [] []
def YO:=fm [1,2,3] [] []
def YP:=fm [3,4,6,7,8,9,10,12,13,14,15,16,17,28,29,41,57,70,88,126] [(8,(sq 0 5 (sq 6 8 (.one 5 [4,3,2,1,0] (.one 14 [] (.q 15 .done))))))] []
def YQ:=fm [4,5,7,8,9,16] [] [(2,([0,1,4,7,8],[16]))]
def YR:=fm [2] [] []
def YS:=fm [1,2,3,4,5,10,18,27,41,50,64,77] [] []
def YT:=fm [2,3] [] []
def YU:=fm [2,3] [] []
def YV:=fm [2,3] [] []
def YW:=fm [2,3,4] [(1,(sq 0 11 (.q 12 (.q 13 (.one 11 [10,9,8,7,6,5,4,3,2,1,0] (.one 14 [13,12] (sq 15 3 .done)))))))] []
def YX:=fm [1,2] [] []
def akc:=fm [2,3,4,5,7,12,13,14,15,18,22] [] [(4,([2,3,4,5,12,13,14],[7,24,27]))]
def akd:=fm [2,4,5,6,9,14] [] [(5,([1,4,5,6],[22,23]))]
def YY:=fm [6,7,8,9,10,11,23,26,34,40,63,76,80] [(1,(sq 0 9 (.alt 9 [] (.one 10 [] (.one 11 [2,1,0] (.one 12 [8,7,6,5,4,3] .done))) (.one 10 [] (.one 9 [] (.one 11 [2,1,0] (.one 12 [8,7,6,5,4,3] .done))))))),(8,(.q 0 (.q 1 (.one 2 [1] (.one 3 [0] (.q 4 .done)))))),(10,(sq 0 12 (.one 12 [5,4,3,2,1,0] (.q 13 .done)))),(17,(sq 0 23 (.one 23 [17,16,15,14,13,12,11,10,9,8,7,6,5,4,3,2,1,0] (.q 24 .done))))] []
def YZ:=fm [4,5,7,8,9,16] [] [(2,([0,1,4,7,8],[16]))]
def ake:=fm [2,3,5,6,7,8,9] [] [(3,([2,3,6,7,8],[5,15,16]))]
def Y0:=fm [4] [] []
def Y1:=fm [1,2] [] []
def akf:=fm [3,4,5,6,8,9,10,11,12,14,15,16,17,18,19,20,21,22,33,34,44,48,56,71,83,90,104,107,132,135,136,137,138,154,165,166,167,168,179,191,197] [(1,(sq 0 5 (.alt 5 [4,3,2,1,0] (sq 6 3 (.one 9 [] (.one 10 [7,6] (.q 11 .done)))) (.one 9 [] (.one 5 [4,3,2,1,0] (sq 6 3 (.one 10 [7,6] (.q 11 .done)))))))),(4,(sq 0 8 (.one 8 [7,6,5,4,3,2,1,0] (.q 9 .done)))),(14,(sq 0 7 (.one 7 [6,5,4,3,2,1,0] (.q 8 (.q 9 (.one 10 [9,8] (.q 11 .done))))))),(23,(sq 0 8 (.one 8 [7,6,5,4,3,2,1,0] (.q 9 (.q 10 (.one 11 [10,9] (.q 12 .done))))))),(24,(sq 0 10 (.one 10 [9,8,7,6,5,4,3,2,1,0] (.q 11 (.q 12 (.one 13 [12,11] (.q 14 .done))))))),(42,(sq 0 9 (.one 9 [8,4,3,2,1,0] (.q 10 .done))))] [(17,([0,3,4,5,6,10],[100,116])),(27,([0,3,4,5,6,135,136,137],[14,15,145])),(37,([0,3,4,5,6,17,18,165,166,167],[20,21,175]))]
def Y2:=fm [2,3] [] []
def akg:=fm [2,3,4,6] [] []
def Y3:=fm [2,4] [(1,(sq 0 7 (.one 7 [6,3,2,1,0] (sq 8 3 .done))))] []
def Y4:=fm [2,3,4,6,8,10,12] [] []
def akh:=fm [0,4,5,13] [] [(2,([0,1,4,5],[18]))]
def Y5:=fm [2,4] [] []
def Y6:=fm [4,5,6,12,19,35] [(5,(sq 0 15 .done))] []
def Y7:=fm [2,3,4,5,6,7,16] [] []
def Y8:=fm [2,4] [] []
def aki:=fm [4,5,6,9,24] [] [(3,([0,1,4,5,6],[27,28]))]
def akj:=fm [2,3,4,5,6,7,11,40] [(7,(sq 0 12 .done))] [(5,([0,2,3,4,5,6,7],[31]))]
def Y9:=fm [1,2] [] []
def Y_:=fm [4,10,16] [] []
def Y':=fm [4] [] []
def Za:=fm [2,3,4,5,6,7,8,9,10,11,15,25,28,33,37,42,47,64,78,91] [(22,(sq 0 3 (.q 4 (.q 5 (.one 3 [2] (.one 6 [5,4,1,0] (sq 7 5 .done)))))))] []
def ZA:=fm [1,2,3,7,9,12] [] []
def ZB:=fm [4,5,6,7,8,9,15,21,27,31,32,36,40,44,48,52,56] [] []
def ZC:=fm [2] [] []
def ZD:=fm [6,7,8,9,16,23,30,37] [] []
def ZE:=fm [2] [] []
def ZF:=fm [2,4] [] []
def akk:=fm [4,5,7,8,9,16] [] [(2,([0,1,4,7,8],[16]))]
def Rl:=fm [3,4,5,6,7,8,9,10,13,29] [] []
def Rm:=fm [3,4,5,6,7,8] [] []
def Rn:=fm [2,4] [] []
def Ro:=fm [2,3,4,6] [] []
def Rp:=fm [4,5,6,7,8,9,10,11,19] [] []
def Rq:=fm [1,2] [] []
def Rr:=fm [3,4,6,7,8,9,10,12,13,14,15,16,17,28,29,41,53,66,84,87,88,98,108,118,128,138] [(1,(sq 0 9 (.alt 9 [] (.one 10 [] (.one 11 [2,1,0] (.one 12 [8,7,6,5,4,3] .done))) (.one 10 [] (.one 9 [] (.one 11 [2,1,0] (.one 12 [8,7,6,5,4,3] .done))))))),(8,(.q 0 (.q 1 (.one 2 [1] (.q 3 (.one 4 [0] (.q 5 .done))))))),(33,(sq 0 5 (.one 5 [4,3,2,1] (.q 6 (.q 7 (.one 8 [0] (.q 9 .done)))))))] []
def Rs:=fm [8] [] []
def ZG:=fm [0,2,3,4,5,6,7,8,14,24,35] [] [(5,([0,2,3,4,5,6],[22])),(9,([2,3,4,5,6,7,8],[34,39]))]
def Rt:=fm [4] [] []
def Ru:=fm [3,4,5,6,7,8,9,10,11,12,13,17,18,22,26,29,39,41,50,62,64,74] [] []
def Rv:=fm [6,7,8,10,11,12,14,15,29,32,35,55,77] [] []
def Rw:=fm [1,2,6] [] []
def Rx:=fm [2,3,4,5,6,8,13] [(3,(.q 0 (.q 2 (.one 1 [0] (.one 3 [2] (.q 4 (.q 5 .done))))))),(6,(sq 0 3 (sq 4 3 (.one 3 [2,1,0] (.one 7 [6,5,4] (.one 8 [] (.q 9 .done)))))))] []
def Ry:=fm [4,5,23] [] []
def Rz:=fm [4,5,23] [] []
def RA:=fm [4,5,6,7,17] [] []
def RB:=fm [4,5,7] [] []
def RC:=fm [4,5,7] [] []
def RD:=fm [2,3] [] []
def RE:=fm [4,5,12] [] []
def RF:=fm [4,5,12] [] []
def RG:=fm [1,2,3,4,9,12] [] []
def RH:=fm [2,3,4,5,6,7,8,9,13,19,50,55,63,72,84,106] [(5,(sq 0 22 (.q 23 (.q 24 (.one 22 [21,20,19,18,17,16,15,14,13,12,11,10,9,8,7,6,5,4,3,2,1,0] (.one 25 [24,23] (sq 26 4 .done))))))),(17,(sq 0 3 (.q 4 (.q 5 (.one 3 [2] (.one 6 [5,4,1,0] (sq 7 5 .done)))))))] []
def RI:=fm [4,5,6,7,8,9,16,23,47] [] []
def RJ:=fm [2] [] []
def RL:=fm [2] [] []
def RM:=fm [4,5,6,15] [] []
def RN:=fm [4,5,6,15] [] []
def RO:=fm [4,5] [] []
def RP:=fm [4,5,6,9] [] []
def RQ:=fm [4,5,6,7,9] [] []
def RR:=fm [2,3] [] []
def RS:=fm [2,3] [] []
def RT:=fm [4,5,6,11,14] [] []
def RU:=fm [0,2,3,4,5,6,15,20,27] [] []
def ZH:=fm [0,2,3,4,5,6,7,8,9,10,11,12,21,33,42,49,52,55,64] [] [(5,([0,2,3,4,5,6],[]))]
def RV:=fm [2,3,4,6,8,40] [] []
def ZI:=fm [2,3,4,5,11,14] [] [(5,([0,2,3,4,5],[]))]
def RW:=fm [4,5,10,15] [] []
def RX:=fm [4,5,6] [] []
def RZ:=fm [2,3,4,5,25] [] []
def R0:=fm [4,5,6,19,29] [] []
def R1:=fm [4,5,6,7,8] [] []
def R2:=fm [1,2,3,4,10,15] [] []
def R3:=fm [3,4,5,6,7,8,9,10,12,13,25,26,33,42,51,59] [] []
def R4:=fm [6,7,8,10,11,12,14,15,16,25,29,52,67,75] [(12,(sq 0 8 .done))] []
def R5:=fm [1,2,6] [] []
def R6:=fm [2,3,4,5,8,9,16] [(6,(.q 0 (.q 2 (.one 1 [0] (.one 3 [2] (.q 4 (.q 5 .done))))))),(7,(.q 0 (.q 1 (.q 3 (.q 4 (.one 2 [1,0] (.one 5 [4,3] (.one 6 [] (.q 7 .done)))))))))] []
def R7:=fm [1,2,3,10] [] []
def R8:=fm [4,5,6,7,8,9,10,55,62] [] []
def R9:=fm [2] [] []
def ZJ:=fm [2,3,7,19] [] [(2,([0,2,3],[]))]
def ZK:=fm [4,5,6,7,8,12,25] [] [(3,([0,1,4,5,6,7],[]))]
def ZL:=fm [6,7,8,9,34,43] [] [(5,([0,1,6,7,8,9],[49]))]
def R_:=fm [1,2,3,4,8,11,21,26,36,50,61,67] [] []
def R':=fm [2] [] []
def Sa:=fm [2,3,4,5,9,16] [] []
def Sb:=fm [2,3,4,5,6,7,8,9,17,29,46,49] [] []
def Sc:=fm [2,3,4,6,8,34] [(1,(sq 0 22 (.one 22 [21,20,19,18,17,16,15,14,13,12,11,10,9,8,7,6,5,4,3,2,1,0] (.q 23 (.q 24 .done)))))] []
def Sd:=fm [2] [] []
def ZM:=fm [2,3,4,7,8,9,10] [] [(5,([2,3,4,8,9],[]))]
def Se:=fm [4,5,9] [] []
def Sf:=fm [2,3,4,5,9] [] []
def Sg:=fm [2,4,5] [] []
def Sh:=fm [4,5,9] [] []
def Si:=fm [2] [] []
def Sj:=fm [4,5,6,7,10,22,37] [(6,(sq 0 15 .done))] []
def Sk:=fm [2,3,4,5,6,7,16] [] []
def Sl:=fm [2,8] [] []
def Sm:=fm [2] [] []
def Sn:=fm [4] [] []
def ZN:=fm [6,7,8,9,34,43] [] [(5,([0,1,6,7,8,9],[49]))]
def Sp:=fm [4,5] [] []
def Sq:=fm [4] [] []
def ZO:=fm [0,2,3,4,5,6,7,8,14,24,31,42] [] [(5,([0,2,3,4,5,6],[22])),(7,([0,2,3,4,5,6],[29])),(11,([2,3,4,5,6,7,8],[41,48]))]
def Sr:=fm [2,3,6,9,12,19,22] [] []
def Ss:=fm [4,7] [] []
def Su:=fm [4,5,11] [] []
def Sv:=fm [2,3] [] []
def Sw:=fm [4,5,9] [] []
def Sx:=fm [4] [] []
def Sy:=fm [2,15] [] []
def Sz:=fm [2] [] []
def SA:=fm [2,3] [] []
def SB:=fm [2] [] []
def SC:=fm [2] [] []
def SD:=fm [2,3,10] [] []
theorem bN:c8 Tryz.prog bl:=FH (by kernel_rfl)
theorem bD:Aj Tryz.prog bl:=fun _ _ _ h=>h.elim
theorem mixed:Tryz.prog.follows .mixedOrders=true:=by kernel_rfl
theorem cz{gl:Nat→Option Obj}{C:aj}(hC:ah prog gl C)(fn:Func)(fi:Fi){f:Nat}{args:List R}{Q:KT}(hex:∃res fin,Q res fin)(h:vc bl C bf fi (fn.body.getD .skip) fn.results.toList args Q)(hf:prog.funcs[f]? = some fn:=by kernel_rfl)(hb:fn.body=some (fn.body.getD .skip):=by kernel_rfl)(hn:(fn.name == "runtime.NumGoroutine")=false:=by kernel_rfl)(hN:Nat.ble args.length fn.ntmps=true:=by kernel_rfl)(hc:fx fn.ntmps fi.sc false (fn.body.getD .skip)=true:=by kernel_rfl):Ct prog gl f args Q:=
 aw bN hC aF bD mixed hf hb hn (fi:=fi) hN hc hex h
abbrev CK(gl:Nat→Option Obj)(c:List R→KT→Prop)(n:Nat):Prop:=∀(a:List R) (K:KT),c a K→Ct prog gl n a K
end Go.Proofs.Tryz
namespace Go.Ex
open Go Go.Dm
def ar(n:Int):Prop:=-9223372036854775808≤n∧n<9223372036854775808
structure Ty where
 k:Int
 sc:Int
 deriving DecidableEq
structure AV where
 t:Ty
 aA:Bool
 n:Int
 s:ByteArray
abbrev Ty.cs(t:Ty):List D:=[.v (.int .i64 t.k),.v (.int .i64 t.sc)]
abbrev AV.cs(v:AV):List D:=[.v (.int .i64 v.t.k),.v (.int .i64 v.t.sc),.v (.bool v.aA),.v (.int .i64 v.n),.v (.string v.s)]
theorem AV.ext{a b:AV}(h1:a.t.k=b.t.k)(h2:a.t.sc=b.t.sc)(h3:a.aA=b.aA)(h4:a.n=b.n)(h5:a.s=b.s):a=b:=by
 rcases a with⟨⟨_,_⟩,_,_,_⟩;rcases b with⟨⟨_,_⟩,_,_,_⟩;simp_all
inductive EX where
 |mk (op sub:Int) (ty:Ty) (v:AV) (args:List EX)
def EX.op:EX→Int | .mk a _ _ _ _=>a
def EX.sub:EX→Int | .mk _ a _ _ _=>a
def EX.ty:EX→Ty | .mk _ _ a _ _=>a
def EX.v:EX→AV | .mk _ _ _ a _=>a
def EX.args:EX→List EX | .mk _ _ _ _ a=>a
mutual
def cells:EX→List D
 | .mk op sub ty v args=>[.v (.int .i64 op),.v (.int .i64 sub),.v (.int .i64 ty.k),.v (.int .i64 ty.sc),.v (.int .i64 v.t.k),.v (.int .i64 v.t.sc),.v (.bool v.aA),.v (.int .i64 v.n),.v (.string v.s),.sl (aa args)]
def aa:List EX→List (List D)
 |[]=>[]
 |e::r=>cells e::aa r
end
theorem dJ:∀l:List EX,aa l=l.map cells
 |[]=>by simp[aa]
 |e::r=>by simp[aa,dJ r]
theorem ag(l:List EX):(aa l).length=l.length:=by rw[dJ,List.length_map]
theorem An{l:List EX}{i:Nat}{e:EX}(h:l[i]? = some e):(aa l)[i]? = some (cells e):=by rw[dJ,List.getElem?_map,h];rfl
theorem cw(a b:List EX):aa (a++b)=aa a++aa b:=by simp[dJ]
mutual
def size:EX→Nat
 | .mk _ _ _ _ args=>ir args+1
def ir:List EX→Nat
 |[]=>0
 |e::r=>size e+ir r
end
theorem ja{l:List EX}{e:EX}(h:e∈l):size e≤ir l:=by
 induction l with
 |nil=>cases h
 |cons a r ih=>
  simp only[ir]
  cases h with
  |head=>omega
  |tail _ h=>have:=ih h;omega
theorem nM{op sub:Int}{ty:Ty}{v:AV}{args:List EX}{e:EX}(h:e∈args):size e<size (.mk op sub ty v args):=by
 have:=ja h
 simp only[size];omega
mutual
def fits:EX→Prop
 | .mk op sub ty v args=>(ar op∧ar sub∧ar ty.k∧ar ty.sc∧ar v.t.k∧ar v.t.sc∧ar v.n)∧args.length≤1353245080300∧eY args
def eY:List EX→Prop
 |[]=>True
 |e::r=>fits e∧eY r
end
theorem cZ{l:List EX}{e:EX}(hl:eY l)(h:e∈l):fits e:=by
 induction l with
 |nil=>cases h
 |cons a r ih=>
  simp only[eY]at hl
  cases h with
  |head=>exact hl.1
  |tail _ h=>exact ih hl.2 h
mutual
def nodes:EX→Int
 | .mk _ _ _ _ args=>eS 1 args
def eS(n:Int):List EX→Int
 |[]=>n
 |e::r=>eS (IntKind.i64.wrap (n+nodes e)) r
end
theorem pP(l:List EX)(e:EX):∀n,eS n (l++[e])=IntKind.i64.wrap (eS n l+nodes e):=by
 induction l with
 |nil=>intro n;simp[eS]
 |cons a r ih=>intro n;simp only[List.cons_append,eS];exact ih _
mutual
def deep:EX→Int
 | .mk _ _ _ _ args=>IntKind.i64.wrap (eM 0 args+1)
def eM(n:Int):List EX→Int
 |[]=>n
 |e::r=>eM (if n<deep e then deep e else n) r
end
theorem sr(l:List EX)(e:EX):∀n,eM n (l++[e])=if eM n l<deep e then deep e else eM n l:=by
 induction l with
 |nil=>
  intro n
  have h1:eM n []=n:=by simp only[eM]
  have h2:eM n [e]=(if n<deep e then deep e else n):=by simp only[eM]
  rw[List.nil_append,h2,h1]
 |cons a r ih=>intro n;simp only[List.cons_append,eM];exact ih _
end Go.Ex
namespace Go.Ex
open Go Go.Dm
open Classical in
noncomputable def jb(a b:EX):Bool:=decide (a=b)
end Go.Ex
namespace Go.Proofs.Tryz
open Go Go.Dm Go.Ex
set_option maxRecDepth 100000
variable {gl:Nat→Option Obj}
theorem ai{n:Int}(h1:-9223372036854775808≤n)(h2:n<9223372036854775808):IntKind.i64.wrap n=n:=by
 simp[IntKind.wrap,IntKind.signed,IntKind.bits];split<;>omega
theorem aL{i:Nat}(h:i<9223372036854775807):IntKind.i64.wrap ((i:Int)+1)=((i+1:Nat):Int):=by
 rw[ai (by omega) (by omega)];omega
def ZP:aj:=fun _ _ _=>False
theorem w4:ah prog gl ZP:=fun _ _ _ h=>h.elim
def aT(op sub:Int)(t:Ty)(v:Go.Ex.AV)(es:List (List D)):List D:=[.v (.int .i64 op),.v (.int .i64 sub),.v (.int .i64 t.k),.v (.int .i64 t.sc),.v (.int .i64 v.t.k),.v (.int .i64 v.t.sc),.v (.bool v.aA),.v (.int .i64 v.n),.v (.string v.s),.sl es]
theorem ab(op sub:Int)(t:Ty)(v:Go.Ex.AV)(args:List EX):cells (.mk op sub t v args)=aT op sub t v (aa args):=by simp[cells,aT]
theorem ee{op sub:Int}{t:Ty}{v:Go.Ex.AV}{args:List EX}(h:fits (.mk op sub t v args)):(ar op∧ar sub∧ar t.k∧ar t.sc∧ar v.t.k∧ar v.t.sc∧ar v.n)∧args.length≤1353245080300∧eY args:=by
 simpa[fits]using h
theorem aX{l:List EX}{i:Nat}(hi:i<l.length):∃op sub t v a,l[i] = .mk op sub t v a∧(aa l)[((i:Nat):Int).toNat]? = some (aT op sub t v (aa a)):=by
 rcases h:l[i]with⟨op,sub,t,v,a⟩
 refine⟨op,sub,t,v,a,rfl,?_⟩
 rw[Int.toNat_natCast,←ab,←h]
 exact An (List.getElem?_eq_getElem hi)
def OH(n:Nat)(a:List R)(K:KT):Prop:=match a with
 |[.agg x]=>∃e:EX,x=cells e∧size e<n∧fits e∧K [.d (.v (.int .i64 (nodes e)))] []
 |_=>False
def SE(n:Nat):aj:=au ZP 28 (OH n)
def ZQ(op sub:Int)(t:Ty)(v:Go.Ex.AV)(args:List EX)(x:Nat):St:={tm:=[(2,.d (.v (.int .i64 0))),(3,.d (.v (.int .i64 (eS 1 (args.take x))))),(7,.d (.sl (aa args))),(8,.d (.v (.int .i64 ((aa args).length:Int)))),(9,.d (.v (.int .i64 (x:Int))))],hp:=[(1,.box [.d (.v (.int .i64 op)),.d (.v (.int .i64 sub)),.d (.v (.int .i64 t.k)),.d (.v (.int .i64 t.sc)),.d (.v (.int .i64 v.t.k)),.d (.v (.int .i64 v.t.sc)),.d (.v (.bool v.aA)),.d (.v (.int .i64 v.n)),.d (.v (.string v.s)),.d (.sl (aa args))])],kn:=[],gd:=[]}
def pQ(l:List EX)(m:Nat)(x:Nat):Prop:=x≤l.length∧m=l.length-x
def SF(op sub:Int)(t:Ty)(v:Go.Ex.AV)(args:List EX):Fi:={aj4 with lx:=[(3,{X:=Nat,sh:=ZQ op sub t v args,P:=fun _=>pQ args})]}
def fy(k:(List (List D))→Prop):Prop:=∃(es:List (List D)),k es
def gS(a0:List EX)(k:(List (List D))→Prop):Prop:=fy fun es=>D.sl (aa a0)=D.sl es∧k es
def zz(a0:List EX)(k:(List (List D))→Nat→Prop):Prop:=gS a0 fun es=>∃(x0:Nat),k es x0
def Zg3(a0:Int)(a1:List EX)(a2:List (List D))(a3 a4:Int)(a5:Ty)(a6:Go.Ex.AV):St:={tm:=[(2,.i 0),(3,.i a0),(7,.d (.sl (aa a1))),(8,.i (↑a2.length:Int)),(9,.i 0)],hp:=[(1,.box [.i a3,.i a4,.i a5.1,.i a5.2,.i a6.1.1,.i a6.1.2,.d (.v (.bool a6.2)),.i a6.3,.d (.v (.string a6.4)),.d (.sl (aa a1))])],kn:=[],gd:=[]:St}
def Zf8(a0:Nat)(a1:List EX)(a2 a3:Int)(a4:Ty)(a5:Go.Ex.AV):St:={tm:=[(2,.i 0),(3,.i (eS (1:Int) (List.take a0 a1))),(7,.d (.sl (aa a1))),(8,.i (↑(aa a1).length:Int)),(9,.i (↑a0:Int))],hp:=[(1,.box [.i a2,.i a3,.i a4.1,.i a4.2,.i a5.1.1,.i a5.1.2,.d (.v (.bool a5.2)),.i a5.3,.d (.v (.string a5.4)),.d (.sl (aa a1))])],kn:=[],gd:=[]:St}
def Gm(a0:Nat)(a1:List EX)(k:Prop):Prop:=decide ((↑a0:Int)<(↑(aa a1).length:Int))=true→k
def Zbx(a0:Nat)(a1:List (List D))(k:(List D)→Prop):Prop:=(0≤(↑a0:Int)∧(↑a0:Int)<(↑a1.length:Int))∧∃(cells:List D),a1[(↑a0:Int).toNat]? = some cells∧k cells
def yM(a0:List EX)(a1:Nat)(k:(List D)→Prop):Prop:=gS a0 fun es=>Zbx a1 es fun cells=>k cells
def Z2(a0 a1 a2 a3 a4 a5:Int)(a6:Bool)(a7:Int)(a8:ByteArray)(a9:List (List D)):List D:=[.i a0,.i a1,.i a2,.i a3,.i a4,.i a5,.v (.bool a6),.i a7,.v (.string a8),.sl a9]
def Zr(a0:List D)(k:Int→Int→Int→Int→Int→Int→Bool→Int→ByteArray→(List (List D))→Prop):Prop:=∃(aW bO dv c_ fS gI:Int),∃(b:Bool),∃(mr:Int),∃(cD:ByteArray),fy fun es=>cut 0 10 a0=some (Z2 aW bO dv c_ fS gI b mr cD es)∧k aW bO dv c_ fS gI b mr cD es
def Zs(a0:List D)(k:Int→Int→Int→Int→Int→Int→Bool→Int→ByteArray→(List (List D))→Prop):Prop:=a0.length=10∧Zr a0 fun aW bO dv c_ fS gI b mr cD es=>k aW bO dv c_ fS gI b mr cD es
def Zy(a0:List D)(k:Int→Int→Int→Int→Int→Int→Bool→Int→ByteArray→(List (List D))→EX→Prop):Prop:=Zs a0 fun aW bO dv c_ fS gI b mr cD es=>∃(e:EX),k aW bO dv c_ fS gI b mr cD es e
def lU(a0 a1 a2 a3 a4 a5:Int)(a6:Bool)(a7:Int)(a8:ByteArray)(a9:List (List D))(eV:EX)(k:Prop):Prop:=(Z2 a0 a1 a2 a3 a4 a5 a6 a7 a8 a9)=Ex.cells eV∧k
def Fb(a0:List D)(k:Int→Int→Int→Int→Int→Int→Bool→Int→ByteArray→(List (List D))→EX→Prop):Prop:=Zy a0 fun aW bO dv c_ fS gI b mr cD es e=>lU aW bO dv c_ fS gI b mr cD es e (k aW bO dv c_ fS gI b mr cD es e)
def OI(a0:List EX)(a1:Nat)(k:EX→Prop):Prop:=yM a0 a1 fun cells=>Fb cells fun _ _ _ _ _ _ _ _ _ _ e=>k e
def OJ(a0:List EX)(a1 a2:Nat)(k:EX→Prop):Prop:=OI a0 a1 fun e=>size e<a2∧fits e∧k e
def fb(k:Nat→Nat→Prop):Prop:=∃(m x':Nat),k m x'
def fG(a0:Nat)(k:Nat→Nat→Prop):Prop:=fb fun m x'=>m<a0∧k m x'
def Wz(a0:List EX)(a1 a2 a3:Nat)(k:EX→Nat→Nat→Prop):Prop:=OJ a0 a1 a2 fun e=>fG a3 fun m x'=>k e m x'
def Zd0(a0:Nat)(a1:List EX)(a2 a3:Nat)(k:EX→Nat→Nat→Prop):Prop:=Gm a0 a1 (Wz a1 a0 a2 a3 fun e m x'=>k e m x')
def Fc(a0:Nat)(a1:List EX)(k:Prop):Prop:=decide ((↑a0:Int)<(↑(aa a1).length:Int))=false→k
theorem akm(n:Nat)(op sub:Int)(t:Ty)(v:Go.Ex.AV)(args:List EX)(Q:KT):vc bl (SE n) bf (SF op sub t v args) (f28.body.getD .skip) f28.results.toList [.agg (aT op sub t v (aa args))] Q=(zz args fun es x0=>((Zg3 (1:Int) args es op sub t v)=(Zf8 x0 args op sub t v)∧∃(n:Nat),pQ args n x0)∧∀(aN:Nat) (x:Nat),pQ args aN x→(Zd0 x args n aN fun e m x'=>{tm:=[(2,.i 0),(3,.i (IntKind.i64.wrap (eS (1:Int) (List.take x args)+nodes e))),(7,.d (.sl (aa args))),(8,.i (↑(aa args).length:Int)),(9,.i (IntKind.i64.wrap ((↑x:Int)+1)))],hp:=[(1,.box [.i op,.i sub,.i t.1,.i t.2,.i v.1.1,.i v.1.2,.d (.v (.bool v.2)),.i v.3,.d (.v (.string v.4)),.d (.sl (aa args))])],kn:=[],gd:=[]:St}=(Zf8 x' args op sub t v)∧pQ args m x')∧(Fc x args (Q [.d (.i (eS (1:Int) (List.take x args)))] []))):=by kernel_rfl
theorem ZR:∀(n:Nat) (e:EX),size e<n→fits e→Ct prog gl 28 [.agg (cells e)] (gives [.d (.v (.int .i64 (nodes e)))])
 |0,e,h,_=>absurd h (Nat.not_lt_zero _)
 |n+1,.mk op sub t v args,h,hf=>by
  have hC:ah prog gl (SE n):=af w4 (fun a K hk=>by
   unfold OH at hk
   split at hk
   ·obtain⟨e,rfl,h1,h2,h3⟩:=hk
    exact(ZR n e h1 h2).gives h3
   ·exact hk.elim)
  rw[ab]
  refine aw bN hC aF bD mixed (fn:=f28) (body:=f28.body.getD .skip) (by kernel_rfl) (by kernel_rfl) (by kernel_rfl) (fi:=SF op sub t v args) (by kernel_rfl) (by kernel_rfl) ⟨_,_,rfl,rfl⟩ ?_
  rw[akm];dsimp -eta -iota -proj only[zz,gS,fy,Zg3,Zf8,Zd0,Gm,Wz,OJ,OI,yM,Zbx,Fb,Zy,Zs,Zr,Z2,lU,fG,fb,Fc]
  obtain⟨_,hl,ss⟩:=ee hf
  have hsz:∀e∈args,size e<n:=fun e he=>by have:=nM (op:=op) (sub:=sub) (ty:=t) (v:=v) he;omega
  refine⟨aa args,rfl,(0:Nat),⟨by simp only[List.take_zero,eS];rfl,args.length,Nat.zero_le _,rfl⟩,fun m (x:Nat) hx=>⟨fun hi=>?_,fun hi=>?_⟩⟩
  ·have hi:x<args.length:=by simpa[ag]using hi
   obtain⟨cL,aU,t',v',a',he,gO⟩:=aX hi
   have hm:=hx.2
   refine⟨aa args,rfl,⟨by omega,by rw[ag];omega⟩,_,gO,rfl,cL,aU,t'.k,t'.sc,v'.t.k,v'.t.sc,v'.aA,v'.n,v'.s,aa a',rfl,args[x],by rw[he,ab];rfl,hsz _ (List.getElem_mem hi),cZ ss (List.getElem_mem hi),args.length-(x+1),x+1,by omega,?_,hi,rfl⟩
   rw[aL (by omega),List.take_add_one,List.getElem?_eq_getElem hi,Option.toList_some,pP]
  ·have hi:¬x<args.length:=by simpa[ag]using hi
   rw[List.take_of_length_le (by omega)]
   refine⟨?_,rfl⟩
   simp only[nodes]
def OK(n:Nat)(a:List R)(K:KT):Prop:=match a with
 |[.agg x]=>∃e:EX,x=cells e∧size e<n∧fits e∧K [.d (.v (.int .i64 (deep e)))] []
 |_=>False
def SG(n:Nat):aj:=au ZP 29 (OK n)
def ZS(op sub:Int)(t:Ty)(v:Go.Ex.AV)(args:List EX)(x:Nat):St:={tm:=[(2,.d (.v (.int .i64 0))),(3,.d (.v (.int .i64 (eM 0 (args.take x))))),(7,.d (.sl (aa args))),(8,.d (.v (.int .i64 ((aa args).length:Int)))),(9,.d (.v (.int .i64 (x:Int))))],hp:=[(1,.box [.d (.v (.int .i64 op)),.d (.v (.int .i64 sub)),.d (.v (.int .i64 t.k)),.d (.v (.int .i64 t.sc)),.d (.v (.int .i64 v.t.k)),.d (.v (.int .i64 v.t.sc)),.d (.v (.bool v.aA)),.d (.v (.int .i64 v.n)),.d (.v (.string v.s)),.d (.sl (aa args))])],kn:=[],gd:=[]}
def SH(op sub:Int)(t:Ty)(v:Go.Ex.AV)(args:List EX):Fi:={aj5 with lx:=[(3,{X:=Nat,sh:=ZS op sub t v args,P:=fun _=>pQ args})]}
def Zga(a0:Nat)(a1:List EX)(a2 a3:Int)(a4:Ty)(a5:Go.Ex.AV):St:={tm:=[(2,.i 0),(3,.i (eM (0:Int) (List.take a0 a1))),(7,.d (.sl (aa a1))),(8,.i (↑(aa a1).length:Int)),(9,.i (↑a0:Int))],hp:=[(1,.box [.i a2,.i a3,.i a4.1,.i a4.2,.i a5.1.1,.i a5.1.2,.d (.v (.bool a5.2)),.i a5.3,.d (.v (.string a5.4)),.d (.sl (aa a1))])],kn:=[],gd:=[]:St}
theorem ako(n:Nat)(op sub:Int)(t:Ty)(v:Go.Ex.AV)(args:List EX)(Q:KT):vc bl (SG n) bf (SH op sub t v args) (f29.body.getD .skip) f29.results.toList [.agg (aT op sub t v (aa args))] Q=(zz args fun es x0=>((Zg3 (0:Int) args es op sub t v)=(Zga x0 args op sub t v)∧∃(n:Nat),pQ args n x0)∧∀(aN:Nat) (x:Nat),pQ args aN x→(Zd0 x args n aN fun e m x'=>{tm:=[(2,.i 0),(3,.i (if deep e>eM (0:Int) (List.take x args)then deep e else eM (0:Int) (List.take x args))),(7,.d (.sl (aa args))),(8,.i (↑(aa args).length:Int)),(9,.i (IntKind.i64.wrap ((↑x:Int)+1)))],hp:=[(1,.box [.i op,.i sub,.i t.1,.i t.2,.i v.1.1,.i v.1.2,.d (.v (.bool v.2)),.i v.3,.d (.v (.string v.4)),.d (.sl (aa args))])],kn:=[],gd:=[]:St}=(Zga x' args op sub t v)∧pQ args m x')∧(Fc x args (Q [.d (.i (IntKind.i64.wrap (eM (0:Int) (List.take x args)+(1:Int))))] []))):=by kernel_rfl
end Go.Proofs.Tryz
