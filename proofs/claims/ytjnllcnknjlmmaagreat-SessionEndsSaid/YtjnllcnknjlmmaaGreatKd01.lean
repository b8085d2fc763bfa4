/- Layer 41. -/
import Derived.Test.YtjnllcnknjlmmaaGreatKg01
set_option linter.unusedSimpArgs false
set_option linter.unusedVariables false
set_option maxRecDepth 100000
set_option maxHeartbeats 4000000
namespace Go.Proofs.YtjnllcnknjlmmaaGreat
open Go.RowKit
namespace Bv
theorem n16_lo(x:BitVec 16):0<=n16 x:=by unfold n16;omega
theorem n16_hi(x:BitVec 16):n16 x<65536:=by have:=x.isLt;unfold n16;omega
end Bv
end Go.Proofs.YtjnllcnknjlmmaaGreat
namespace Go.Proofs.YtjnllcnknjlmmaaGreat
open Go.RowKit
namespace Li
end Li
end Go.Proofs.YtjnllcnknjlmmaaGreat
namespace Go.Proofs.YtjnllcnknjlmmaaGreat
namespace Hv
open Go Go.RowKit
end Hv
end Go.Proofs.YtjnllcnknjlmmaaGreat
namespace Go.Proofs.YtjnllcnknjlmmaaGreat
open Go.RowKit
namespace Li
end Li
end Go.Proofs.YtjnllcnknjlmmaaGreat
namespace Go.Proofs.YtjnllcnknjlmmaaGreat
open Go Go.RowKit
namespace Hv
end Hv
namespace Li
end Li
end Go.Proofs.YtjnllcnknjlmmaaGreat
namespace Go.Proofs.YtjnllcnknjlmmaaGreat
open Go.RowKit
namespace Li
end Li
end Go.Proofs.YtjnllcnknjlmmaaGreat
namespace Go.Proofs.YtjnllcnknjlmmaaGreat
open Go Go.RowKit
namespace Li
end Li
end Go.Proofs.YtjnllcnknjlmmaaGreat
namespace Go.Proofs.YtjnllcnknjlmmaaGreat
open Go Go.RowKit
namespace Li
end Li
end Go.Proofs.YtjnllcnknjlmmaaGreat
namespace Go.Proofs.YtjnllcnknjlmmaaGreat
open Go Go.RowKit
namespace Li
end Li
namespace Hv
end Hv
end Go.Proofs.YtjnllcnknjlmmaaGreat
namespace Go.Proofs.YtjnllcnknjlmmaaGreat
open Go Go.RowKit
namespace Li
end Li
end Go.Proofs.YtjnllcnknjlmmaaGreat
namespace Go.Proofs.YtjnllcnknjlmmaaGreat
namespace Ch
open Go Go.RowKit Hv
end Ch
end Go.Proofs.YtjnllcnknjlmmaaGreat
namespace Go.Proofs.YtjnllcnknjlmmaaGreat
open Go Go.RowKit
namespace Pd
open Se (St At Reads Cell)
open Li (v8)
open Bv (n8 n16 n32)
variable {w0 w:World} {X:List Nat} {L:List At}
attribute [local irreducible] Calls
theorem rSame_st(hs:St w0 X L w)(h q:Hd){EA DA EB DB:Option Addr}{en ec dn dc em ed dm dd:Nat}{es fs da db:List (BitVec 8)}(he:en=es.length)(hf:em=fs.length)(hd:dn=da.length)(hb:dm=db.length)(hE:Reads L EA (es.map v8))(hF:Reads L EB (fs.map v8))(hD:Reads L DA (da.map v8))(hG:Reads L DB (db.map v8)){r:Bool}(hr:(es==fs&&da==db&&eqH h q)=r) :
  Calls Tryz.prog 32 #[.agg (pc h EA en ec DA dn dc).toArray,.agg (pc q EB em ed DB dm dd).toArray] w fun e w'=>e=.returned (.bool r)/\St w0 X L w':=by
 obtain⟨P,hP⟩:∃ P,P=pc h EA en ec DA dn dc:=⟨_,rfl⟩
 obtain⟨Q,hQ⟩:∃ Q,Q=pc q EB em ed DB dm dd:=⟨_,rfl⟩
 have P3:=Lib.hid (show P[3]? = some (.slice EA en ec) by rw[hP];rfl)
 have P13:=Lib.hid (show P[13]? = some (.slice DA dn dc) by rw[hP];rfl)
 have Q3:=Lib.hid (show Q[3]? = some (.slice EB em ed) by rw[hQ];rfl)
 have Q13:=Lib.hid (show Q[13]? = some (.slice DB dm dd) by rw[hQ];rfl)
 obtain⟨x0,hx0⟩:∃ x,x=n8 h.k:=⟨_,rfl⟩
 obtain⟨y0,hy0⟩:∃ y,y=n8 q.k:=⟨_,rfl⟩
 have P0:=Lib.hid (show P[0]? = some (.int .u8 x0) by rw[hP,hx0];rfl)
 have Q0:=Lib.hid (show Q[0]? = some (.int .u8 y0) by rw[hQ,hy0];rfl)
 obtain⟨b0,hb0⟩:∃ b,(x0==y0)=b:=⟨_,rfl⟩
 have n0:(x0 != y0) = !b0:=by rw[bne,hb0]
 obtain⟨x1,hx1⟩:∃ x,x=h.la:=⟨_,rfl⟩
 obtain⟨y1,hy1⟩:∃ y,y=q.la:=⟨_,rfl⟩
 have P1:=Lib.hid (show P[1]? = some (.bool x1) by rw[hP,hx1];rfl)
 have Q1:=Lib.hid (show Q[1]? = some (.bool y1) by rw[hQ,hy1];rfl)
 obtain⟨b1,hb1⟩:∃ b,(x1==y1)=b:=⟨_,rfl⟩
 have n1:(x1 != y1) = !b1:=by rw[bne,hb1]
 obtain⟨x2,hx2⟩:∃ x,x=h.su:=⟨_,rfl⟩
 obtain⟨y2,hy2⟩:∃ y,y=q.su:=⟨_,rfl⟩
 have P2:=Lib.hid (show P[2]? = some (.bool x2) by rw[hP,hx2];rfl)
 have Q2:=Lib.hid (show Q[2]? = some (.bool y2) by rw[hQ,hy2];rfl)
 obtain⟨b2,hb2⟩:∃ b,(x2==y2)=b:=⟨_,rfl⟩
 have n2:(x2 != y2) = !b2:=by rw[bne,hb2]
 obtain⟨x4,hx4⟩:∃ x,x=n16 h.id:=⟨_,rfl⟩
 obtain⟨y4,hy4⟩:∃ y,y=n16 q.id:=⟨_,rfl⟩
 have P4:=Lib.hid (show P[4]? = some (.int .u16 x4) by rw[hP,hx4];rfl)
 have Q4:=Lib.hid (show Q[4]? = some (.int .u16 y4) by rw[hQ,hy4];rfl)
 obtain⟨b4,hb4⟩:∃ b,(x4==y4)=b:=⟨_,rfl⟩
 obtain⟨x5,hx5⟩:∃ x,x=n16 h.tg:=⟨_,rfl⟩
 obtain⟨y5,hy5⟩:∃ y,y=n16 q.tg:=⟨_,rfl⟩
 have P5:=Lib.hid (show P[5]? = some (.int .u16 x5) by rw[hP,hx5];rfl)
 have Q5:=Lib.hid (show Q[5]? = some (.int .u16 y5) by rw[hQ,hy5];rfl)
 obtain⟨b5,hb5⟩:∃ b,(x5==y5)=b:=⟨_,rfl⟩
 obtain⟨x6,hx6⟩:∃ x,x=n32 h.of:=⟨_,rfl⟩
 obtain⟨y6,hy6⟩:∃ y,y=n32 q.of:=⟨_,rfl⟩
 have P6:=Lib.hid (show P[6]? = some (.int .u32 x6) by rw[hP,hx6];rfl)
 have Q6:=Lib.hid (show Q[6]? = some (.int .u32 y6) by rw[hQ,hy6];rfl)
 obtain⟨b6,hb6⟩:∃ b,(x6==y6)=b:=⟨_,rfl⟩
 obtain⟨x7,hx7⟩:∃ x,x=n32 h.ln:=⟨_,rfl⟩
 obtain⟨y7,hy7⟩:∃ y,y=n32 q.ln:=⟨_,rfl⟩
 have P7:=Lib.hid (show P[7]? = some (.int .u32 x7) by rw[hP,hx7];rfl)
 have Q7:=Lib.hid (show Q[7]? = some (.int .u32 y7) by rw[hQ,hy7];rfl)
 obtain⟨b7,hb7⟩:∃ b,(x7==y7)=b:=⟨_,rfl⟩
 obtain⟨x8,hx8⟩:∃ x,x=n8 h.al:=⟨_,rfl⟩
 obtain⟨y8,hy8⟩:∃ y,y=n8 q.al:=⟨_,rfl⟩
 have P8:=Lib.hid (show P[8]? = some (.int .u8 x8) by rw[hP,hx8];rfl)
 have Q8:=Lib.hid (show Q[8]? = some (.int .u8 y8) by rw[hQ,hy8];rfl)
 obtain⟨b8,hb8⟩:∃ b,(x8==y8)=b:=⟨_,rfl⟩
 obtain⟨x9,hx9⟩:∃ x,x=n8 h.dg:=⟨_,rfl⟩
 obtain⟨y9,hy9⟩:∃ y,y=n8 q.dg:=⟨_,rfl⟩
 have P9:=Lib.hid (show P[9]? = some (.int .u8 x9) by rw[hP,hx9];rfl)
 have Q9:=Lib.hid (show Q[9]? = some (.int .u8 y9) by rw[hQ,hy9];rfl)
 obtain⟨b9,hb9⟩:∃ b,(x9==y9)=b:=⟨_,rfl⟩
 obtain⟨x10,hx10⟩:∃ x,x=n32 h.mx:=⟨_,rfl⟩
 obtain⟨y10,hy10⟩:∃ y,y=n32 q.mx:=⟨_,rfl⟩
 have P10:=Lib.hid (show P[10]? = some (.int .u32 x10) by rw[hP,hx10];rfl)
 have Q10:=Lib.hid (show Q[10]? = some (.int .u32 y10) by rw[hQ,hy10];rfl)
 obtain⟨b10,hb10⟩:∃ b,(x10==y10)=b:=⟨_,rfl⟩
 obtain⟨x11,hx11⟩:∃ x,x=n16 h.st:=⟨_,rfl⟩
 obtain⟨y11,hy11⟩:∃ y,y=n16 q.st:=⟨_,rfl⟩
 have P11:=Lib.hid (show P[11]? = some (.int .u16 x11) by rw[hP,hx11];rfl)
 have Q11:=Lib.hid (show Q[11]? = some (.int .u16 y11) by rw[hQ,hy11];rfl)
 obtain⟨b11,hb11⟩:∃ b,(x11==y11)=b:=⟨_,rfl⟩
 obtain⟨x12,hx12⟩:∃ x,x=n32 h.nf:=⟨_,rfl⟩
 obtain⟨y12,hy12⟩:∃ y,y=n32 q.nf:=⟨_,rfl⟩
 have P12:=Lib.hid (show P[12]? = some (.int .u32 x12) by rw[hP,hx12];rfl)
 have Q12:=Lib.hid (show Q[12]? = some (.int .u32 y12) by rw[hQ,hy12];rfl)
 obtain⟨b12,hb12⟩:∃ b,(x12==y12)=b:=⟨_,rfl⟩
 obtain⟨be,hbe⟩:∃ b,(es==fs)=b:=⟨_,rfl⟩
 obtain⟨bd,hbd⟩:∃ b,(da==db)=b:=⟨_,rfl⟩
 obtain⟨r1,hr1⟩:∃ r1,(be&&bd&&b0&&b1&&b2)=r1:=⟨_,rfl⟩
 have HR:Hid ((r1&&(b4&&b5&&b6&&b7&&b8&&b9&&b10&&b11&&b12))=r):=Lib.hid (by rw[<-hr,<-hr1,<-hbe,<-hbd];unfold eqH;rw[<-hx0,<-hy0,<-hx1,<-hy1,<-hx2,<-hy2,<-hx4,<-hy4,<-hx5,<-hy5,<-hx6,<-hy6,<-hx7,<-hy7,<-hx8,<-hy8,<-hx9,<-hy9,<-hx10,<-hy10,<-hx11,<-hy11,<-hx12,<-hy12,hb0,hb1,hb2,hb4,hb5,hb6,hb7,hb8,hb9,hb10,hb11,hb12];simp only[Bool.and_assoc])
 have R1:=Lib.hid hr1
 have SE:((strB es).toList==(strB fs).toList)=be:=by rw[<-hbe,Bool.eq_iff_iff];simp[strB_list]
 have SD:((strB da).toList==(strB db).toList)=bd:=by rw[<-hbd,Bool.eq_iff_iff];simp[strB_list]
 have TE:((strB es).toList=(strB fs).toList)=(be=true):=by rw[<-hbe];simp[strB_list]
 have TD:((strB da).toList=(strB db).toList)=(bd=true):=by rw[<-hbd];simp[strB_list]
 have HE:=Lib.hid hE
 have HF:=Lib.hid hF
 have HD:=Lib.hid hD
 have HG:=Lib.hid hG
 have LE:=Lib.hid he
 have LF:=Lib.hid hf
 have LD:=Lib.hid hd
 have LG:=Lib.hid hb
 rw[<-hP,<-hQ];clear hr1 hP hQ hr hbe hbd hE hF hD hG he hf hd hb hx0 hy0 hx1 hy1 hx2 hy2 hx4 hy4 hx5 hy5 hx6 hy6 hx7 hy7 hx8 hy8 hx9 hy9 hx10 hy10 hx11 hy11 hx12 hy12
 go_enter Tryz.func32,Tryz.ntmps32
 go_upto_region 1 with (first|((first|with_reducible refine Se.ab hs ?_|with_reducible refine Se.abc hs ?_);clear hs;(first|((fail_if_success (have _q:=g2));generalize w.heap.size=g2;intro w hs)|(generalize w.heap.size=g3;intro w hs))))
 have c1:(convert 24 9 (.slice EA en ec)).run Tryz.prog w=.ok (.string (strB es)) w:=run_str w Tryz.underlying24 Tryz.underlying5 Tryz.underlying9 LE.out ((HE.out.app [_,_]) w hs.hold)
 have c2:(convert 24 9 (.slice EB em ed)).run Tryz.prog w=.ok (.string (strB fs)) w:=run_str w Tryz.underlying24 Tryz.underlying5 Tryz.underlying9 LF.out ((HF.out.app [_,_]) w hs.hold)
 have c3:(convert 24 9 (.slice DA dn dc)).run Tryz.prog w=.ok (.string (strB da)) w:=run_str w Tryz.underlying24 Tryz.underlying5 Tryz.underlying9 LD.out ((HD.out.app [_,_]) w hs.hold)
 have c4:(convert 24 9 (.slice DB dm dd)).run Tryz.prog w=.ok (.string (strB db)) w:=run_str w Tryz.underlying24 Tryz.underlying5 Tryz.underlying9 LG.out ((HG.out.app [_,_]) w hs.hold)
 go_cut [41] (fun s41 wx=>s41=.bool (!r1)/\St w0 X ([.blk g3 65 Q,.blk g2 65 P]++L) wx)
 case first =>
  cases be with
  | false =>
   obtain rfl:r1=false:=by rw[<-R1.out];simp
   go_wp2_with (first|((with_reducible refine Se.iL 6 ?_);(refine Se.Ld hs rfl rfl (Cell.blk 1 rfl P3.out) ?_))|((with_reducible refine Se.iL 9 ?_);(refine Se.Ld hs rfl rfl (Cell.blk 0 rfl Q3.out) ?_)))
   go_meet;exact⟨rfl,hs⟩
  | true =>
   cases bd with
   | false =>
    obtain rfl:r1=false:=by rw[<-R1.out];simp
    go_wp2_with (first|((with_reducible refine Se.iL 6 ?_);(refine Se.Ld hs rfl rfl (Cell.blk 1 rfl P3.out) ?_))|((with_reducible refine Se.iL 9 ?_);(refine Se.Ld hs rfl rfl (Cell.blk 0 rfl Q3.out) ?_))|((with_reducible refine Se.iL 14 ?_);(refine Se.Ld hs rfl rfl (Cell.blk 1 rfl P13.out) ?_))|((with_reducible refine Se.iL 17 ?_);(refine Se.Ld hs rfl rfl (Cell.blk 0 rfl Q13.out) ?_)))
    go_meet;exact⟨rfl,hs⟩
   | true =>
    cases b0 with
    | false =>
     obtain rfl:r1=false:=by rw[<-R1.out];simp
     go_wp2_with (first|((with_reducible refine Se.iL 6 ?_);(refine Se.Ld hs rfl rfl (Cell.blk 1 rfl P3.out) ?_))|((with_reducible refine Se.iL 9 ?_);(refine Se.Ld hs rfl rfl (Cell.blk 0 rfl Q3.out) ?_))|((with_reducible refine Se.iL 14 ?_);(refine Se.Ld hs rfl rfl (Cell.blk 1 rfl P13.out) ?_))|((with_reducible refine Se.iL 17 ?_);(refine Se.Ld hs rfl rfl (Cell.blk 0 rfl Q13.out) ?_))|((with_reducible refine Se.iL 23 ?_);(refine Se.Ld hs rfl rfl (Cell.blk 1 rfl P0.out) ?_))|((with_reducible refine Se.iL 25 ?_);(refine Se.Ld hs rfl rfl (Cell.blk 0 rfl Q0.out) ?_)))
     go_meet;exact⟨rfl,hs⟩
    | true =>
     cases b1 with
     | false =>
      obtain rfl:r1=false:=by rw[<-R1.out];simp
      go_wp2_with (first|((with_reducible refine Se.iL 6 ?_);(refine Se.Ld hs rfl rfl (Cell.blk 1 rfl P3.out) ?_))|((with_reducible refine Se.iL 9 ?_);(refine Se.Ld hs rfl rfl (Cell.blk 0 rfl Q3.out) ?_))|((with_reducible refine Se.iL 14 ?_);(refine Se.Ld hs rfl rfl (Cell.blk 1 rfl P13.out) ?_))|((with_reducible refine Se.iL 17 ?_);(refine Se.Ld hs rfl rfl (Cell.blk 0 rfl Q13.out) ?_))|((with_reducible refine Se.iL 23 ?_);(refine Se.Ld hs rfl rfl (Cell.blk 1 rfl P0.out) ?_))|((with_reducible refine Se.iL 25 ?_);(refine Se.Ld hs rfl rfl (Cell.blk 0 rfl Q0.out) ?_))|((with_reducible refine Se.iL 30 ?_);(refine Se.Ld hs rfl rfl (Cell.blk 1 rfl P1.out) ?_))|((with_reducible refine Se.iL 32 ?_);(refine Se.Ld hs rfl rfl (Cell.blk 0 rfl Q1.out) ?_)))
      go_meet;exact⟨rfl,hs⟩
     | true =>
      cases b2 with
      | false =>
       obtain rfl:r1=false:=by rw[<-R1.out];simp
       go_wp2_with (first|((with_reducible refine Se.iL 6 ?_);(refine Se.Ld hs rfl rfl (Cell.blk 1 rfl P3.out) ?_))|((with_reducible refine Se.iL 9 ?_);(refine Se.Ld hs rfl rfl (Cell.blk 0 rfl Q3.out) ?_))|((with_reducible refine Se.iL 14 ?_);(refine Se.Ld hs rfl rfl (Cell.blk 1 rfl P13.out) ?_))|((with_reducible refine Se.iL 17 ?_);(refine Se.Ld hs rfl rfl (Cell.blk 0 rfl Q13.out) ?_))|((with_reducible refine Se.iL 23 ?_);(refine Se.Ld hs rfl rfl (Cell.blk 1 rfl P0.out) ?_))|((with_reducible refine Se.iL 25 ?_);(refine Se.Ld hs rfl rfl (Cell.blk 0 rfl Q0.out) ?_))|((with_reducible refine Se.iL 30 ?_);(refine Se.Ld hs rfl rfl (Cell.blk 1 rfl P1.out) ?_))|((with_reducible refine Se.iL 32 ?_);(refine Se.Ld hs rfl rfl (Cell.blk 0 rfl Q1.out) ?_))|((with_reducible refine Se.iL 37 ?_);(refine Se.Ld hs rfl rfl (Cell.blk 1 rfl P2.out) ?_))|((with_reducible refine Se.iL 39 ?_);(refine Se.Ld hs rfl rfl (Cell.blk 0 rfl Q2.out) ?_)))
       go_meet;exact⟨rfl,hs⟩
      | true =>
       obtain rfl:r1=true:=by rw[<-R1.out];rfl
       go_wp2_with (first|((with_reducible refine Se.iL 6 ?_);(refine Se.Ld hs rfl rfl (Cell.blk 1 rfl P3.out) ?_))|((with_reducible refine Se.iL 9 ?_);(refine Se.Ld hs rfl rfl (Cell.blk 0 rfl Q3.out) ?_))|((with_reducible refine Se.iL 14 ?_);(refine Se.Ld hs rfl rfl (Cell.blk 1 rfl P13.out) ?_))|((with_reducible refine Se.iL 17 ?_);(refine Se.Ld hs rfl rfl (Cell.blk 0 rfl Q13.out) ?_))|((with_reducible refine Se.iL 23 ?_);(refine Se.Ld hs rfl rfl (Cell.blk 1 rfl P0.out) ?_))|((with_reducible refine Se.iL 25 ?_);(refine Se.Ld hs rfl rfl (Cell.blk 0 rfl Q0.out) ?_))|((with_reducible refine Se.iL 30 ?_);(refine Se.Ld hs rfl rfl (Cell.blk 1 rfl P1.out) ?_))|((with_reducible refine Se.iL 32 ?_);(refine Se.Ld hs rfl rfl (Cell.blk 0 rfl Q1.out) ?_))|((with_reducible refine Se.iL 37 ?_);(refine Se.Ld hs rfl rfl (Cell.blk 1 rfl P2.out) ?_))|((with_reducible refine Se.iL 39 ?_);(refine Se.Ld hs rfl rfl (Cell.blk 0 rfl Q2.out) ?_)))
       go_meet;exact⟨rfl,hs⟩
 case rest =>
  clear hs c1 c2 c3 c4 SE SD TE TD n0 n1 n2 hb0 hb1 hb2
  obtain⟨rfl,hs⟩:=hcut
  rename World=>w
  cases r1 with
  | false =>
   obtain rfl:r=false:=HR.out.symm
   go_wp2_with fail
   go_ret;exact⟨rfl,hs.drop.drop⟩
  | true =>
   cases b4 with
   | false =>
    obtain rfl:r=false:=by rw[<-HR.out];simp
    go_wp2_with (first|((with_reducible refine Se.iL 43 ?_);(refine Se.Ld hs rfl rfl (Cell.blk 1 rfl P4.out) ?_))|((with_reducible refine Se.iL 45 ?_);(refine Se.Ld hs rfl rfl (Cell.blk 0 rfl Q4.out) ?_)))
    go_ret;exact⟨rfl,hs.drop.drop⟩
   | true =>
    cases b5 with
    | false =>
     obtain rfl:r=false:=by rw[<-HR.out];simp
     go_wp2_with (first|((with_reducible refine Se.iL 43 ?_);(refine Se.Ld hs rfl rfl (Cell.blk 1 rfl P4.out) ?_))|((with_reducible refine Se.iL 45 ?_);(refine Se.Ld hs rfl rfl (Cell.blk 0 rfl Q4.out) ?_))|((with_reducible refine Se.iL 49 ?_);(refine Se.Ld hs rfl rfl (Cell.blk 1 rfl P5.out) ?_))|((with_reducible refine Se.iL 51 ?_);(refine Se.Ld hs rfl rfl (Cell.blk 0 rfl Q5.out) ?_)))
     go_ret;exact⟨rfl,hs.drop.drop⟩
    | true =>
     cases b6 with
     | false =>
      obtain rfl:r=false:=by rw[<-HR.out];simp
      go_wp2_with (first|((with_reducible refine Se.iL 43 ?_);(refine Se.Ld hs rfl rfl (Cell.blk 1 rfl P4.out) ?_))|((with_reducible refine Se.iL 45 ?_);(refine Se.Ld hs rfl rfl (Cell.blk 0 rfl Q4.out) ?_))|((with_reducible refine Se.iL 49 ?_);(refine Se.Ld hs rfl rfl (Cell.blk 1 rfl P5.out) ?_))|((with_reducible refine Se.iL 51 ?_);(refine Se.Ld hs rfl rfl (Cell.blk 0 rfl Q5.out) ?_))|((with_reducible refine Se.iL 56 ?_);(refine Se.Ld hs rfl rfl (Cell.blk 1 rfl P6.out) ?_))|((with_reducible refine Se.iL 58 ?_);(refine Se.Ld hs rfl rfl (Cell.blk 0 rfl Q6.out) ?_)))
      go_ret;exact⟨rfl,hs.drop.drop⟩
     | true =>
      cases b7 with
      | false =>
       obtain rfl:r=false:=by rw[<-HR.out];simp
       go_wp2_with (first|((with_reducible refine Se.iL 43 ?_);(refine Se.Ld hs rfl rfl (Cell.blk 1 rfl P4.out) ?_))|((with_reducible refine Se.iL 45 ?_);(refine Se.Ld hs rfl rfl (Cell.blk 0 rfl Q4.out) ?_))|((with_reducible refine Se.iL 49 ?_);(refine Se.Ld hs rfl rfl (Cell.blk 1 rfl P5.out) ?_))|((with_reducible refine Se.iL 51 ?_);(refine Se.Ld hs rfl rfl (Cell.blk 0 rfl Q5.out) ?_))|((with_reducible refine Se.iL 56 ?_);(refine Se.Ld hs rfl rfl (Cell.blk 1 rfl P6.out) ?_))|((with_reducible refine Se.iL 58 ?_);(refine Se.Ld hs rfl rfl (Cell.blk 0 rfl Q6.out) ?_))|((with_reducible refine Se.iL 63 ?_);(refine Se.Ld hs rfl rfl (Cell.blk 1 rfl P7.out) ?_))|((with_reducible refine Se.iL 65 ?_);(refine Se.Ld hs rfl rfl (Cell.blk 0 rfl Q7.out) ?_)))
       go_ret;exact⟨rfl,hs.drop.drop⟩
      | true =>
       cases b8 with
       | false =>
        obtain rfl:r=false:=by rw[<-HR.out];simp
        go_wp2_with (first|((with_reducible refine Se.iL 43 ?_);(refine Se.Ld hs rfl rfl (Cell.blk 1 rfl P4.out) ?_))|((with_reducible refine Se.iL 45 ?_);(refine Se.Ld hs rfl rfl (Cell.blk 0 rfl Q4.out) ?_))|((with_reducible refine Se.iL 49 ?_);(refine Se.Ld hs rfl rfl (Cell.blk 1 rfl P5.out) ?_))|((with_reducible refine Se.iL 51 ?_);(refine Se.Ld hs rfl rfl (Cell.blk 0 rfl Q5.out) ?_))|((with_reducible refine Se.iL 56 ?_);(refine Se.Ld hs rfl rfl (Cell.blk 1 rfl P6.out) ?_))|((with_reducible refine Se.iL 58 ?_);(refine Se.Ld hs rfl rfl (Cell.blk 0 rfl Q6.out) ?_))|((with_reducible refine Se.iL 63 ?_);(refine Se.Ld hs rfl rfl (Cell.blk 1 rfl P7.out) ?_))|((with_reducible refine Se.iL 65 ?_);(refine Se.Ld hs rfl rfl (Cell.blk 0 rfl Q7.out) ?_))|((with_reducible refine Se.iL 70 ?_);(refine Se.Ld hs rfl rfl (Cell.blk 1 rfl P8.out) ?_))|((with_reducible refine Se.iL 72 ?_);(refine Se.Ld hs rfl rfl (Cell.blk 0 rfl Q8.out) ?_)))
        go_ret;exact⟨rfl,hs.drop.drop⟩
       | true =>
        cases b9 with
        | false =>
         obtain rfl:r=false:=by rw[<-HR.out];simp
         go_wp2_with (first|((with_reducible refine Se.iL 43 ?_);(refine Se.Ld hs rfl rfl (Cell.blk 1 rfl P4.out) ?_))|((with_reducible refine Se.iL 45 ?_);(refine Se.Ld hs rfl rfl (Cell.blk 0 rfl Q4.out) ?_))|((with_reducible refine Se.iL 49 ?_);(refine Se.Ld hs rfl rfl (Cell.blk 1 rfl P5.out) ?_))|((with_reducible refine Se.iL 51 ?_);(refine Se.Ld hs rfl rfl (Cell.blk 0 rfl Q5.out) ?_))|((with_reducible refine Se.iL 56 ?_);(refine Se.Ld hs rfl rfl (Cell.blk 1 rfl P6.out) ?_))|((with_reducible refine Se.iL 58 ?_);(refine Se.Ld hs rfl rfl (Cell.blk 0 rfl Q6.out) ?_))|((with_reducible refine Se.iL 63 ?_);(refine Se.Ld hs rfl rfl (Cell.blk 1 rfl P7.out) ?_))|((with_reducible refine Se.iL 65 ?_);(refine Se.Ld hs rfl rfl (Cell.blk 0 rfl Q7.out) ?_))|((with_reducible refine Se.iL 70 ?_);(refine Se.Ld hs rfl rfl (Cell.blk 1 rfl P8.out) ?_))|((with_reducible refine Se.iL 72 ?_);(refine Se.Ld hs rfl rfl (Cell.blk 0 rfl Q8.out) ?_))|((with_reducible refine Se.iL 77 ?_);(refine Se.Ld hs rfl rfl (Cell.blk 1 rfl P9.out) ?_))|((with_reducible refine Se.iL 79 ?_);(refine Se.Ld hs rfl rfl (Cell.blk 0 rfl Q9.out) ?_)))
         go_ret;exact⟨rfl,hs.drop.drop⟩
        | true =>
         cases b10 with
         | false =>
          obtain rfl:r=false:=by rw[<-HR.out];simp
          go_wp2_with (first|((with_reducible refine Se.iL 43 ?_);(refine Se.Ld hs rfl rfl (Cell.blk 1 rfl P4.out) ?_))|((with_reducible refine Se.iL 45 ?_);(refine Se.Ld hs rfl rfl (Cell.blk 0 rfl Q4.out) ?_))|((with_reducible refine Se.iL 49 ?_);(refine Se.Ld hs rfl rfl (Cell.blk 1 rfl P5.out) ?_))|((with_reducible refine Se.iL 51 ?_);(refine Se.Ld hs rfl rfl (Cell.blk 0 rfl Q5.out) ?_))|((with_reducible refine Se.iL 56 ?_);(refine Se.Ld hs rfl rfl (Cell.blk 1 rfl P6.out) ?_))|((with_reducible refine Se.iL 58 ?_);(refine Se.Ld hs rfl rfl (Cell.blk 0 rfl Q6.out) ?_))|((with_reducible refine Se.iL 63 ?_);(refine Se.Ld hs rfl rfl (Cell.blk 1 rfl P7.out) ?_))|((with_reducible refine Se.iL 65 ?_);(refine Se.Ld hs rfl rfl (Cell.blk 0 rfl Q7.out) ?_))|((with_reducible refine Se.iL 70 ?_);(refine Se.Ld hs rfl rfl (Cell.blk 1 rfl P8.out) ?_))|((with_reducible refine Se.iL 72 ?_);(refine Se.Ld hs rfl rfl (Cell.blk 0 rfl Q8.out) ?_))|((with_reducible refine Se.iL 77 ?_);(refine Se.Ld hs rfl rfl (Cell.blk 1 rfl P9.out) ?_))|((with_reducible refine Se.iL 79 ?_);(refine Se.Ld hs rfl rfl (Cell.blk 0 rfl Q9.out) ?_))|((with_reducible refine Se.iL 84 ?_);(refine Se.Ld hs rfl rfl (Cell.blk 1 rfl P10.out) ?_))|((with_reducible refine Se.iL 86 ?_);(refine Se.Ld hs rfl rfl (Cell.blk 0 rfl Q10.out) ?_)))
          go_ret;exact⟨rfl,hs.drop.drop⟩
         | true =>
          cases b11 with
          | false =>
           obtain rfl:r=false:=by rw[<-HR.out];simp
           go_wp2_with (first|((with_reducible refine Se.iL 43 ?_);(refine Se.Ld hs rfl rfl (Cell.blk 1 rfl P4.out) ?_))|((with_reducible refine Se.iL 45 ?_);(refine Se.Ld hs rfl rfl (Cell.blk 0 rfl Q4.out) ?_))|((with_reducible refine Se.iL 49 ?_);(refine Se.Ld hs rfl rfl (Cell.blk 1 rfl P5.out) ?_))|((with_reducible refine Se.iL 51 ?_);(refine Se.Ld hs rfl rfl (Cell.blk 0 rfl Q5.out) ?_))|((with_reducible refine Se.iL 56 ?_);(refine Se.Ld hs rfl rfl (Cell.blk 1 rfl P6.out) ?_))|((with_reducible refine Se.iL 58 ?_);(refine Se.Ld hs rfl rfl (Cell.blk 0 rfl Q6.out) ?_))|((with_reducible refine Se.iL 63 ?_);(refine Se.Ld hs rfl rfl (Cell.blk 1 rfl P7.out) ?_))|((with_reducible refine Se.iL 65 ?_);(refine Se.Ld hs rfl rfl (Cell.blk 0 rfl Q7.out) ?_))|((with_reducible refine Se.iL 70 ?_);(refine Se.Ld hs rfl rfl (Cell.blk 1 rfl P8.out) ?_))|((with_reducible refine Se.iL 72 ?_);(refine Se.Ld hs rfl rfl (Cell.blk 0 rfl Q8.out) ?_))|((with_reducible refine Se.iL 77 ?_);(refine Se.Ld hs rfl rfl (Cell.blk 1 rfl P9.out) ?_))|((with_reducible refine Se.iL 79 ?_);(refine Se.Ld hs rfl rfl (Cell.blk 0 rfl Q9.out) ?_))|((with_reducible refine Se.iL 84 ?_);(refine Se.Ld hs rfl rfl (Cell.blk 1 rfl P10.out) ?_))|((with_reducible refine Se.iL 86 ?_);(refine Se.Ld hs rfl rfl (Cell.blk 0 rfl Q10.out) ?_))|((with_reducible refine Se.iL 91 ?_);(refine Se.Ld hs rfl rfl (Cell.blk 1 rfl P11.out) ?_))|((with_reducible refine Se.iL 93 ?_);(refine Se.Ld hs rfl rfl (Cell.blk 0 rfl Q11.out) ?_)))
           go_ret;exact⟨rfl,hs.drop.drop⟩
          | true =>
           cases b12 with
           | false =>
            obtain rfl:r=false:=by rw[<-HR.out];simp
            go_wp2_with (first|((with_reducible refine Se.iL 43 ?_);(refine Se.Ld hs rfl rfl (Cell.blk 1 rfl P4.out) ?_))|((with_reducible refine Se.iL 45 ?_);(refine Se.Ld hs rfl rfl (Cell.blk 0 rfl Q4.out) ?_))|((with_reducible refine Se.iL 49 ?_);(refine Se.Ld hs rfl rfl (Cell.blk 1 rfl P5.out) ?_))|((with_reducible refine Se.iL 51 ?_);(refine Se.Ld hs rfl rfl (Cell.blk 0 rfl Q5.out) ?_))|((with_reducible refine Se.iL 56 ?_);(refine Se.Ld hs rfl rfl (Cell.blk 1 rfl P6.out) ?_))|((with_reducible refine Se.iL 58 ?_);(refine Se.Ld hs rfl rfl (Cell.blk 0 rfl Q6.out) ?_))|((with_reducible refine Se.iL 63 ?_);(refine Se.Ld hs rfl rfl (Cell.blk 1 rfl P7.out) ?_))|((with_reducible refine Se.iL 65 ?_);(refine Se.Ld hs rfl rfl (Cell.blk 0 rfl Q7.out) ?_))|((with_reducible refine Se.iL 70 ?_);(refine Se.Ld hs rfl rfl (Cell.blk 1 rfl P8.out) ?_))|((with_reducible refine Se.iL 72 ?_);(refine Se.Ld hs rfl rfl (Cell.blk 0 rfl Q8.out) ?_))|((with_reducible refine Se.iL 77 ?_);(refine Se.Ld hs rfl rfl (Cell.blk 1 rfl P9.out) ?_))|((with_reducible refine Se.iL 79 ?_);(refine Se.Ld hs rfl rfl (Cell.blk 0 rfl Q9.out) ?_))|((with_reducible refine Se.iL 84 ?_);(refine Se.Ld hs rfl rfl (Cell.blk 1 rfl P10.out) ?_))|((with_reducible refine Se.iL 86 ?_);(refine Se.Ld hs rfl rfl (Cell.blk 0 rfl Q10.out) ?_))|((with_reducible refine Se.iL 91 ?_);(refine Se.Ld hs rfl rfl (Cell.blk 1 rfl P11.out) ?_))|((with_reducible refine Se.iL 93 ?_);(refine Se.Ld hs rfl rfl (Cell.blk 0 rfl Q11.out) ?_))|((with_reducible refine Se.iL 98 ?_);(refine Se.Ld hs rfl rfl (Cell.blk 1 rfl P12.out) ?_))|((with_reducible refine Se.iL 100 ?_);(refine Se.Ld hs rfl rfl (Cell.blk 0 rfl Q12.out) ?_)))
            go_ret;exact⟨rfl,hs.drop.drop⟩
           | true =>
            obtain rfl:r=true:=by rw[<-HR.out];simp
            go_wp2_with (first|((with_reducible refine Se.iL 43 ?_);(refine Se.Ld hs rfl rfl (Cell.blk 1 rfl P4.out) ?_))|((with_reducible refine Se.iL 45 ?_);(refine Se.Ld hs rfl rfl (Cell.blk 0 rfl Q4.out) ?_))|((with_reducible refine Se.iL 49 ?_);(refine Se.Ld hs rfl rfl (Cell.blk 1 rfl P5.out) ?_))|((with_reducible refine Se.iL 51 ?_);(refine Se.Ld hs rfl rfl (Cell.blk 0 rfl Q5.out) ?_))|((with_reducible refine Se.iL 56 ?_);(refine Se.Ld hs rfl rfl (Cell.blk 1 rfl P6.out) ?_))|((with_reducible refine Se.iL 58 ?_);(refine Se.Ld hs rfl rfl (Cell.blk 0 rfl Q6.out) ?_))|((with_reducible refine Se.iL 63 ?_);(refine Se.Ld hs rfl rfl (Cell.blk 1 rfl P7.out) ?_))|((with_reducible refine Se.iL 65 ?_);(refine Se.Ld hs rfl rfl (Cell.blk 0 rfl Q7.out) ?_))|((with_reducible refine Se.iL 70 ?_);(refine Se.Ld hs rfl rfl (Cell.blk 1 rfl P8.out) ?_))|((with_reducible refine Se.iL 72 ?_);(refine Se.Ld hs rfl rfl (Cell.blk 0 rfl Q8.out) ?_))|((with_reducible refine Se.iL 77 ?_);(refine Se.Ld hs rfl rfl (Cell.blk 1 rfl P9.out) ?_))|((with_reducible refine Se.iL 79 ?_);(refine Se.Ld hs rfl rfl (Cell.blk 0 rfl Q9.out) ?_))|((with_reducible refine Se.iL 84 ?_);(refine Se.Ld hs rfl rfl (Cell.blk 1 rfl P10.out) ?_))|((with_reducible refine Se.iL 86 ?_);(refine Se.Ld hs rfl rfl (Cell.blk 0 rfl Q10.out) ?_))|((with_reducible refine Se.iL 91 ?_);(refine Se.Ld hs rfl rfl (Cell.blk 1 rfl P11.out) ?_))|((with_reducible refine Se.iL 93 ?_);(refine Se.Ld hs rfl rfl (Cell.blk 0 rfl Q11.out) ?_))|((with_reducible refine Se.iL 98 ?_);(refine Se.Ld hs rfl rfl (Cell.blk 1 rfl P12.out) ?_))|((with_reducible refine Se.iL 100 ?_);(refine Se.Ld hs rfl rfl (Cell.blk 0 rfl Q12.out) ?_)))
            go_ret;exact⟨rfl,hs.drop.drop⟩
end Pd
end Go.Proofs.YtjnllcnknjlmmaaGreat
namespace Go.Proofs.YtjnllcnknjlmmaaGreat
namespace Sn
def finE(s:Ss)(re:BitVec 16):Ss × Nat:=if s.st=3 then (s,8) else (endE s re.toNat,0)
end Sn
end Go.Proofs.YtjnllcnknjlmmaaGreat
namespace Go.Proofs.YtjnllcnknjlmmaaGreat
open Go Go.RowKit
namespace Sn
open Pd (iv)
open Se (St At Cell)
open Bv (n16)
variable {w0 w:World} {X:List Nat} {L:List At}
attribute [local irreducible] Calls
theorem end0_st{g:Nat}{s:Ss}{f:Pf}(hs:St w0 X (FF g s f L) w)(ok:OkP s f.k)(re:BitVec 16)(hb:s.out.length+2097152<=70368744177664){s':Ss}{e:Nat}(hr:finE s re=(s',e)) :
  Calls Tryz.prog 47 #[.pointer (some ⟨g,0,none⟩),.int .u16 (n16 re)] w fun e' w'=>e'=.returned (iv e)/\FinR w0 X g s' f.k.h.gr L w':=by
 obtain⟨st,hst⟩:∃ st,st=s.st:=⟨_,rfl⟩
 have S8:=Lib.hid (show(scl s f.k.h)[8]? = some (iv st) by rw[hst];exact(scl_at s f.k.h).2.2.2.1)
 have CNo:Hid (∀ w,St w0 X (FF g s f L) w->Calls Tryz.prog 87 #[.pointer (some ⟨g,0,none⟩)] w fun e w'=>e=.returned (.bool false)/\St w0 X (FF g s f L) w'):=Lib.hid (fun w hs=>by
  refine(none_st (St.swapA [_,_] [_] hs)).mono ?_;rintro e w' ⟨h1,h2⟩;exact⟨h1,St.swapA [_] [_,_] h2⟩)
 have CE:Hid (∀ w,St w0 X (FF g s f L) w->Calls Tryz.prog 89 #[.pointer (some ⟨g,0,none⟩),.int .i64 (n16 re)] w fun e w'=>e=.returned (.tuple #[])/\FinR w0 X g (endE s re.toNat) f.k.h.gr L w'):=Lib.hid (fun w hs=>endR [] hs ok re.toNat (Nat.le_trans (send_out s _) hb))
 have WN:IntKind.i64.wrap (n16 re)=n16 re:=IntWalk.i64_in _ (by have:=Bv.n16_lo re;have:=Bv.n16_hi re;omega)
 have HOK:=Lib.hid ok
 unfold finE at hr;rw[<-hst] at hr;clear hst ok hb
 by_cases h3:st=3
 ·rw[if_pos h3] at hr
  cases hr
  have h3i:((st:Int)==3)=true:=by simp;omega
  clear h3
  go_enter Tryz.func47,Tryz.ntmps47
  go_wp2_with (first|((with_reducible refine Se.iL 12 ?_);(refine Se.Ld hs rfl rfl (Cell.blk 2 rfl S8.out) ?_))|(go_at_call 87;refine Calls.mono (CNo.out _ hs) ?_;clear hs;rintro e w ⟨rfl,hs⟩))
  go_ret;exact⟨rfl,f,HOK.out,rfl,hs⟩
 ·rw[if_neg h3] at hr
  cases hr
  have h3i:((st:Int)==3)=false:=by simp;omega
  clear h3
  go_enter Tryz.func47,Tryz.ntmps47
  go_wp2_with (first|((with_reducible refine Se.iL 12 ?_);(refine Se.Ld hs rfl rfl (Cell.blk 2 rfl S8.out) ?_))|(go_at_call 87;refine Calls.mono (CNo.out _ hs) ?_;clear hs;rintro e w ⟨rfl,hs⟩)|(go_at_call 89;refine Calls.mono (CE.out _ hs) ?_;clear hs;rintro e w ⟨rfl,hs⟩))
  go_ret;exact⟨rfl,hs⟩
theorem end_m(N:List At){g:Nat}{s:Ss}{f:Pf}(hs:St w0 X (N++FF g s f L) w)(ok:OkP s f.k)(re:BitVec 16)(hb:s.out.length+2097152<=70368744177664){s':Ss}{e:Nat}(hr:finE s re=(s',e)) :
  Calls Tryz.prog 47 #[.pointer (some ⟨g,0,none⟩),.int .u16 (n16 re)] w fun e' w'=>∃ f',e'=.returned (iv e)/\OkP s' f'.k/\St w0 X (N++FF g s' f' L) w':=by
 refine(end0_st (hs.perm (FF_front N)) ok re hb hr).mono ?_;rintro e' w' ⟨h1,f',h2,h3,h4⟩;exact⟨f',h1,h2,h4.perm (FF_front N).symm⟩
end Sn
end Go.Proofs.YtjnllcnknjlmmaaGreat
namespace Go.Proofs.YtjnllcnknjlmmaaGreat
open Go Go.RowKit
namespace Sn
open Pd (encE enc valid)
theorem v_host(st:BitVec 16):valid { h:={ k:=2#8,st:=st } }=true:=by
 unfold valid Pd.only Pd.own;simp[Pd.hdr,Pd.most]
theorem v_ctrl(st:BitVec 16):valid { h:={ k:=3#8,st:=st } }=true:=by
 unfold valid Pd.only Pd.own;simp[Pd.hdr,Pd.most]
theorem lv_term{c:Cf}{al dg:BitVec 8}{s:Ss}(h:Lv c al dg s)(hc:c.ok)(st:BitVec 16) :
  ∃ t,feedE s (enc { h:={ k:=2#8,st:=st } } (owE c dg))=(t,[],0)/\t.st=3/\t.re=6/\t.tx=[]/\t.rp=[]/\t.out=s.out:=by
 have hH:handleE { s with r:=eatR s.r (enc { h:={ k:=2#8,st:=st } } (owE c dg)).length,rd:=[] } { h:={ k:=2#8,st:=st } }=overE { s with r:=eatR s.r (enc { h:={ k:=2#8,st:=st } } (owE c dg)).length,rd:=[] } 6:=by
  unfold handleE;rw[if_neg (fun hh=>absurd (show s.st=1 from hh.1) (by rw[h.st];decide)),if_neg (fun hh=>absurd (show(2#8:BitVec 8)=4#8 from hh.2) (by decide)),if_neg (fun hh=>absurd (show(2#8:BitVec 8)=6#8 from hh.2) (by decide)),if_pos ⟨h.st,rfl⟩]
 exact⟨_,lv_feed h hc.al (v_host st) hH rfl,rfl,rfl,rfl,rfl,rfl⟩
theorem lv_end{c:Cf}{al dg:BitVec 8}{s:Ss}(h:Lv c al dg s)(h1:al.toNat<=31)(ho:s.out=[])(re:BitVec 16) :
  ∃ t,finE s re=(t,0)/\t.st=3/\t.re=re.toNat/\t.tx=[]/\t.rp=[]/\t.out=encs (lfE c al dg) [{ h:={ k:=3#8,st:=re } }]:=by
 refine⟨endE s re.toNat,?_,rfl,rfl,rfl,rfl,?_⟩
 ·unfold finE
  rw[if_neg (by rw[h.st];decide)]
 ·show s.out++(encE { h:={ k:=3#8,st:=BitVec.ofNat 16 re.toNat } } s.f).1=_
  rw[ho,h.f,BitVec.ofNat_toNat,BitVec.setWidth_eq,encE_eq (framed_lf h1) (v_ctrl re)];simp[encs]
theorem fin_over{s:Ss}(h:s.st=3)(re:BitVec 16):finE s re=(s,8):=by unfold finE;rw[if_pos h]
theorem feed_over{s:Ss}(h:s.st=3)(x:Bs):feedE s x=(s,[],8):=by unfold feedE;rw[if_pos h]
theorem reply_over{s:Ss}(h:s.st≠2)(id:BitVec 16)(en da:Bs):replyE s id en da=(s,8):=by unfold replyE;rw[if_pos h]
end Sn
end Go.Proofs.YtjnllcnknjlmmaaGreat
namespace Go.Proofs.YtjnllcnknjlmmaaGreat
open Go Go.RowKit
namespace Sn
open Pd (iv)
open Se (St At)
open Su (u16)
open Bv (n16)
variable {w0 w:World} {X:List Nat} {L:List At}
attribute [local irreducible] Calls
theorem Bd.out{s:Ss}(h:Bd s)(o:Bs):Bd { s with out:=o }:=⟨⟨h.i.c,h.i.mo,h.i.b,h.i.t,h.i.n,h.i.nd⟩,h.nb,h.np⟩
theorem end_d{N:List At}{g:Nat}{s:Ss}{f:Pf}(hs:St w0 X (N++FF g s f L) w)(ok:OkP s f.k)(re:BitVec 16)(hb:s.out.length<=4398046511104){s':Ss}{e:Nat}(hr:finE s re=(s',e)) :
  Calls Tryz.prog 47 #[.pointer (some ⟨g,0,none⟩),.int .u16 (n16 re)] w fun e' w'=>∃ f',e'=.returned (iv e)/\Hid (OkP s' f'.k)/\St w0 X (N++FF g s' f' L) w':=by
 refine(end_m N hs ok re (by omega) hr).mono ?_;rintro e' w' ⟨f',h1,h2,h3⟩;exact⟨f',h1,Lib.hid h2,h3⟩
end Sn
end Go.Proofs.YtjnllcnknjlmmaaGreat
namespace Go.Proofs.YtjnllcnknjlmmaaGreat
open Go Go.RowKit
namespace Sn
open Pd (PDU enc pc iv fl)
open Se (St At Reads Cell)
open Su (u16)
open Li (v8 Rd Blk)
open Bv (n16)
variable {w0 w:World} {X:List Nat} {L:List At}
attribute [local irreducible] Calls
structure Ov (t:Ss):Prop where
 b:Bd t
 st:t.st=3
 o:t.out=[]
def teP(st:BitVec 16):PDU:={ h:={ k:=2#8,st:=st } }
def ctP(st:BitVec 16):PDU:={ h:={ k:=3#8,st:=st } }
theorem bd_te(z:BitVec 16)(w:World):(Instr.build 65 #[(0,.int .u8 2),(11,.int .u16 (n16 z))]).run Tryz.prog w=.ok (.agg (pc (teP z).h none 0 0 none 0 0).toArray) w:=by kernel_rfl
theorem bd_ct(z:BitVec 16)(w:World):(Instr.build 65 #[(0,.int .u8 3),(11,.int .u16 (n16 z))]).run Tryz.prog w=.ok (.agg (pc (ctP z).h none 0 0 none 0 0).toArray) w:=by kernel_rfl
theorem ends_plain{c:Cf}(hc:c.ok)(re:BitVec 16):∃ t1 t2 t3:Ss,feedE (liveE c 0#8 0#8) (enc (rdP 1#16 5) (owE c 0#8))=(t1,[⟨1#16,entE 2#8 1#16 5 90#8,[],5⟩],0)/\Bd (liveE c 0#8 0#8)/\(liveE c 0#8 0#8).out=[]/\Bd t1/\t1.out=[] /\
  feedE t1 (enc (teP re) (owE c 0#8))=(t2,[],0)/\Ov t2/\t2.re=6/\t2.tx=[]/\t2.rp=[] /\
  finE t1 re=(t3,0)/\t3.st=3/\t3.re=re.toNat/\t3.tx=[]/\t3.rp=[]/\t3.out=encs (lfE c 0#8 0#8) [ctP re]/\Bd t3:=by
 obtain⟨l1,l2,l3,l4,l5,l6,l7⟩:=lv_live hc.al (al:=0#8) (dg:=0#8) (by decide) (by decide)
 have i0:=inv_live hc hc.al (al:=0#8) (dg:=0#8) (by decide) (by decide)
 have b0:Bd (liveE c 0#8 0#8):=⟨i0,by rw[l1.rb];simp only[List.length_nil];omega,by rw[l1.rb,l7];decide⟩
 obtain⟨t1,f1,v1,x1,p1,o1,n1,m1⟩:=lv_read l1 hc l3 l4 1#16 (n:=5) (by decide)
 have hl1:=enc_le (framed_fm (d:=digE c 0#8) hc.al) (rd_valid 1#16 5)
 have b1:Bd t1:=bd_feed (by rw[l1.rb,l7];simp only[List.length_nil];omega) i0 (Nat.le_trans hl1 (by decide)) f1
 obtain⟨t2,f2,s2,r2,x2,p2,o2⟩:=lv_term v1 hc re
 have hl2:=enc_le (framed_fm (d:=digE c 0#8) hc.al) (v_host re)
 have b2:Bd t2:=bd_feed (by rw[v1.rb,m1,l7];simp only[List.length_nil];omega) b1.i (Nat.le_trans hl2 (by decide)) f2
 obtain⟨t3,f3,s3,r3,x3,p3,o3⟩:=lv_end v1 (by decide) (o1.trans l2) re
 have e3:t3=endE t1 re.toNat:=by
  unfold finE at f3;rw[if_neg (by rw[v1.st];decide)] at f3;exact(Prod.mk.inj f3).1.symm
 have b3:Bd t3:=by
  rw[e3];exact⟨(step_end b1.i re.toNat).i,b1.nb,b1.np⟩
 exact⟨t1,t2,t3,f1,b0,l2,b1,o1.trans l2,f2,⟨b2,s2,o2.trans (o1.trans l2)⟩,r2,x2,p2,f3,s3,r3,x3,p3,o3,b3⟩
theorem same_ct(hs:St w0 X L w)(re:BitVec 16)(EA DA:Option Addr)(ec dc:Nat):Calls Tryz.prog 32 #[.agg (pc (ctP re).h EA 0 ec DA 0 dc).toArray,.agg (pc (ctP re).h none 0 0 none 0 0).toArray] w fun e w'=>e=.returned (.bool true)/\St w0 X L w' :=
 Pd.rSame_st hs (ctP re).h (ctP re).h (es:=[]) (fs:=[]) (da:=[]) (db:=[]) rfl rfl rfl rfl Reads.nil Reads.nil Reads.nil Reads.nil (by rw[Pd.eqH_iff];simp)
theorem ends_st(hs:St w0 X L w)(r:Rw)(re:BitVec 16)(ak:Bool)(bs:Bs){A:Option Addr}{n ca:Nat}(hn:n=bs.length)(hx:Reads L A (bs.map v8)) :
  Calls Tryz.prog 11 #[.agg (rwl r).toArray,.int .u16 (n16 re),.bool ak,.slice A n ca] w fun e' w'=>e'=.returned (.bool true)/\St w0 X L w':=by
 obtain⟨R,hR⟩:∃ R,R=rwl r:=⟨_,rfl⟩
 have RL:=Lib.hid (show R.length=7 by rw[hR];rfl)
 have CK:Hid (∀ (M:List At) (w:World),St w0 X M w->Calls Tryz.prog 35 #[] w fun e' w'=>e'=.returned (.bool true)/\St w0 X M w'):=Lib.hid (fun M w hs=>known_st hs)
 by_cases h5:500<n
 ·have t5:(500:Int)<(n:Int):=by omega
  rw[<-hR];clear hR hx hn h5
  go_enter Tryz.func11,Tryz.ntmps11
  go_wp2_with (first|((with_reducible refine Se.iL 4 ?_);(refine Se.toL rfl (Se.bx (o:=⟨some 4,_,_,_,_,_⟩) hs rfl rfl (l:=R) rfl ?_);clear hs;rintro w g4-hs))|((first|with_reducible refine Se.ab hs ?_|with_reducible refine Se.abc hs ?_);clear hs;(first|(generalize w.heap.size=g4;intro w hs)))|(go_at_call 35;refine Calls.mono (CK.out _ _ hs) ?_;clear hs;rintro e w ⟨rfl,hs⟩))
  go_ret;exact⟨rfl,hs.drop⟩
 have t5:¬ (500:Int)<(n:Int):=by omega
 have HN5:=Lib.hid h5
 clear h5
 cases hv:vB r with
 | false =>
  have CL:Hid (∀ (M:List At) (w:World),St w0 X M w->Calls Tryz.prog 43 #[.agg R.toArray,.int .u8 0,.int .u8 0] w fun e w'=>e=.returned (.tuple #[.pointer none,.agg #[.bool false,.bool false,.int .i64 0]])/\St w0 X M w'):=Lib.hid (fun M w hs=>by rw[hR];exact live_no hs r 0#8 0#8 (.inl hv))
  have CV:Hid (∀ (M:List At) (w:World),St w0 X M w->Calls Tryz.prog 25 #[.agg R.toArray] w fun e w'=>e=.returned (.bool false)/\St w0 X M w'):=Lib.hid (fun M w hs=>by rw[hR,<-hv];exact rvalid_st hs r)
  rw[<-hR];clear hR hx hn hv
  go_enter Tryz.func11,Tryz.ntmps11
  go_wp2_with (first|((with_reducible refine Se.iL 4 ?_);(refine Se.toL rfl (Se.bx (o:=⟨some 4,_,_,_,_,_⟩) hs rfl rfl (l:=R) rfl ?_);clear hs;rintro w g4-hs))|((with_reducible refine Se.iL 24 ?_);(refine Se.Ldw hs rfl rfl (Reads.blk 0 rfl) (by rw[RL.out];kernel_rfl) ?_))|((with_reducible refine Se.iL 10 ?_);(refine Se.Al hs rfl (fm_z) ?_;clear hs;rintro w g10-hs))|((with_reducible refine Se.iN ?_);(refine Se.Sow 0 hs rfl rfl rfl rfl (by simp[Value.oneCell']) (by kernel_rfl) (rfl) ?_;clear hs;intro w hs;try simp only[pS] at hs))|((with_reducible refine Se.iL 30 ?_);(refine Se.Ldw hs rfl rfl (Reads.blk 1 rfl) (by rw[RL.out];kernel_rfl) ?_))|((first|with_reducible refine Se.ab hs ?_|with_reducible refine Se.abc hs ?_);clear hs;(first|(generalize w.heap.size=g4;intro w hs)))|(go_at_call 43;refine Calls.mono (CL.out _ _ hs) ?_;clear hs;rintro e w ⟨rfl,hs⟩)|(go_at_call 25;refine Calls.mono (CV.out _ _ hs) ?_;clear hs;rintro e w ⟨rfl,hs⟩)|(go_at_call 35;refine Calls.mono (CK.out _ _ hs) ?_;clear hs;rintro e w ⟨rfl,hs⟩))
  go_ret;exact⟨rfl,hs.drop.drop⟩
 | true =>
 have hc:=(vB_ok hv).2
 have ral:=rwl_al hv
 obtain⟨c,hcc⟩:∃ c,c=cfR r:=⟨_,rfl⟩
 rw[<-hcc] at hc ral
 obtain⟨t1,t2,t3,f1,b0,o0,b1,o1,f2,v2,r2,x2,p2,f3,s3,r3,x3,p3,o3,b3⟩:=ends_plain hc re
 obtain⟨s0,hs0⟩:∃ s,s=liveE c 0#8 0#8:=⟨_,rfl⟩
 obtain⟨F,hF⟩:∃ F,F=fl (lfE c 0#8 0#8):=⟨_,rfl⟩
 obtain⟨F2,hF2⟩:∃ F,F=fl (owE c 0#8):=⟨_,rfl⟩
 obtain⟨EB,hEB⟩:∃ E,E=(entE 2#8 1#16 5 90#8).map v8:=⟨_,rfl⟩
 obtain⟨E1,hE1⟩:∃ b,b=enc (rdP 1#16 5) (owE c 0#8):=⟨_,rfl⟩
 obtain⟨e1,he1⟩:∃ n,n=E1.length:=⟨_,rfl⟩
 obtain⟨E2,hE2⟩:∃ b,b=enc (teP re) (owE c 0#8):=⟨_,rfl⟩
 obtain⟨e2,he2⟩:∃ n,n=E2.length:=⟨_,rfl⟩
 obtain⟨E3,hE3⟩:∃ b,b=encs (lfE c 0#8 0#8) [ctP re]:=⟨_,rfl⟩
 obtain⟨e3,he3⟩:∃ n,n=E3.length:=⟨_,rfl⟩
 obtain⟨PT,hPT⟩:∃ P,P=pc (teP re).h none 0 0 none 0 0:=⟨_,rfl⟩
 obtain⟨PC,hPC⟩:∃ P,P=pc (ctP re).h none 0 0 none 0 0:=⟨_,rfl⟩
 obtain⟨t4,ht4⟩:∃ t,t={ t3 with out:=[] }:=⟨_,rfl⟩
 rw[<-hs0,<-hE1] at f1;rw[<-hs0] at b0 o0;rw[<-hE2] at f2;rw[<-hE3] at o3
 have hf1:=framed_fm (d:=digE c 0#8) hc.al
 have hle1:e1<=4194304:=by rw[he1,hE1];exact Nat.le_trans (enc_le hf1 (rd_valid 1#16 5)) (by decide)
 have hle2:e2<=4194304:=by rw[he2,hE2];exact Nat.le_trans (enc_le hf1 (v_host re)) (by decide)
 have hle3:e3<=4194304:=by
  have h:=encs_small (framed_lf (c:=c) (dg:=0#8) (show(0#8:BitVec 8).toNat<=31 by decide)) (d:=0) [ctP re] (fun p hp=>by obtain rfl:=List.mem_singleton.1 hp;exact⟨v_ctrl re,Nat.le_refl _⟩)
  rw[he3,hE3];exact Nat.le_trans h (show(0+260)*1<=4194304 by decide)
 have FL:=Lib.hid (show F.length=3 by rw[hF];rfl)
 have FO:=Lib.hid (show ∀ v∈F,v.oneCell'=true by rw[hF];simp[fl,Value.oneCell'])
 have F2L:=Lib.hid (show F2.length=3 by rw[hF2];rfl)
 have FS:=Lib.hid (show F.set 2 (.int .i64 c.al)=F2 by rw[hF,hF2];rfl)
 have R2:=Lib.hid (show R[2]? = some (.int .i64 c.al) by rw[hR];exact ral)
 have CL:Hid (∀ (g4:Nat) w,St w0 X (.blk g4 23 R::L) w->Calls Tryz.prog 43 #[.agg R.toArray,.int .u8 0,.int .u8 0] w fun e w'=>∃ g f,e=.returned (.tuple #[.pointer (some ⟨g,0,none⟩),.agg F.toArray])/\Hid (OkP s0 f.k)/\St w0 X (.blk g4 23 R::FF g s0 f L) w'):=Lib.hid (fun g4 w hs=>by
  rw[hF,hs0,hcc,<-Pd.fv_eq]
  have h:=live_d (N:=[.blk g4 23 R]) hs r 0#8 0#8 hv (by decide) (by decide)
  rw[hR];rw[hR] at h;exact h)
 have CEn:Hid (∀ (M:List At) w,St w0 X M w->Calls Tryz.prog 29 #[.int .u8 2,.int .u16 1,.int .i64 5,.int .u8 90] w fun e w'=>e=.returned (.agg EB.toArray)/\St w0 X M w'):=Lib.hid (fun M w hs=>by rw[hEB];exact entry_st hs 2#8 1#16 5 90#8 (by decide))
 have CCm:Hid (∀ (M:List At) w,St w0 X M w->Calls Tryz.prog 44 #[.agg F2.toArray,.agg EB.toArray,.slice none 0 0] w fun e w'=>∃ r B c',e=.returned (.slice B e1 c')/\St w0 X (.own 1 r B e1 c' (E1.map v8)::M) w'):=Lib.hid (fun M w hs=>by
  rw[hF2,hEB,hE1,<-Pd.fv_eq];exact lcmd_st hs (owE c 0#8) (entE 2#8 1#16 5 90#8) [] (entK_len _ _ _ _ 4) rfl Reads.nil hf1 (rd_valid 1#16 5) (by rw[he1,hE1];rfl))
 have CF1:Hid (∀ (M:List At) (r:Option Nat) (B:Option Addr) (c' g:Nat) (f:Pf) w,Hid (OkP s0 f.k)->St w0 X (.own 1 r B e1 c' (E1.map v8)::(M++FF g s0 f L)) w->Calls Tryz.prog 37 #[.pointer (some ⟨g,0,none⟩),.slice B e1 c'] w fun e' w'=>∃ RB rc f',e'=.returned (.tuple #[.slice RB 1 rc,iv 0])/\Hid (OkP t1 f'.k)/\St w0 X (M++FF g t1 f' L) w'):=Lib.hid (fun M r B c' g f w ok hs=>by
  refine(feed_d (N:=.own 1 r B e1 c' (E1.map v8)::M) hs ok.out b0 E1 he1 (Reads.own 0 rfl) hle1 (by rw[o0];decide) f1 rfl).mono ?_;rintro e' w' ⟨RB,rc,f',h1,h2,h3⟩;exact⟨RB,rc,f',h1,h2,h3.drop⟩)
 have CET:Hid (∀ (M:List At) w,St w0 X M w->Calls Tryz.prog 28 #[.agg PT.toArray,.agg F2.toArray] w fun e' w'=>∃ r B c,e'=.returned (.slice B e2 c)/\St w0 X (.own 1 r B e2 c (E2.map v8)::M) w'):=Lib.hid (fun M w hs=>by
  rw[hPT,hF2,hE2,<-Pd.fv_eq];exact Pd.rEncode_st hs (teP re) (owE c 0#8) Reads.nil Reads.nil rfl rfl hf1 (v_host re) (by rw[he2,hE2]))
 have CF2:Hid (∀ (M:List At) (r:Option Nat) (B:Option Addr) (c' g:Nat) (f:Pf) w,Hid (OkP t1 f.k)->St w0 X (.own 1 r B e2 c' (E2.map v8)::(M++FF g t1 f L)) w->Calls Tryz.prog 37 #[.pointer (some ⟨g,0,none⟩),.slice B e2 c'] w fun e' w'=>∃ RB rc f',e'=.returned (.tuple #[.slice RB 0 rc,iv 0])/\Hid (OkP t2 f'.k)/\St w0 X (M++FF g t2 f' L) w'):=Lib.hid (fun M r B c' g f w ok hs=>by
  refine(feed_d (N:=.own 1 r B e2 c' (E2.map v8)::M) hs ok.out b1 E2 he2 (Reads.own 0 rfl) hle2 (by rw[o1];decide) f2 rfl).mono ?_;rintro e' w' ⟨RB,rc,f',h1,h2,h3⟩;exact⟨RB,rc,f',h1,h2,h3.drop⟩)
 have CO2:Hid (∀ (M:List At) (g:Nat) (f:Pf) w,Hid (OkP t2 f.k)->St w0 X (M++FF g t2 f L) w->Calls Tryz.prog 39 #[.pointer (some ⟨g,0,none⟩)] w fun e' w'=>∃ B c f',e'=.returned (.slice B 0 c)/\Hid (OkP t2 f'.k)/\St w0 X (M++FF g t2 f' L) w'):=Lib.hid (fun M g f w ok hs=>output_n hs ok.out v2.o)
 have CI2:Hid (∀ (M:List At) (g:Nat) (f:Pf) w,Hid (OkP t2 f.k)->St w0 X (M++FF g t2 f L) w->Calls Tryz.prog 41 #[.pointer (some ⟨g,0,none⟩),.int .i64 3,.int .i64 6,.slice none 0 0] w fun e' w'=>e'=.returned (.bool true)/\St w0 X (M++FF g t2 f L) w'):=Lib.hid (fun M g f w ok hs=>is_z hs ok.out x2 p2 (by rw[v2.st];rfl) (by rw[r2];rfl))
 have CE3:Hid (∀ (M:List At) (g:Nat) (f:Pf) w,Hid (OkP t1 f.k)->St w0 X (M++FF g t1 f L) w->Calls Tryz.prog 47 #[.pointer (some ⟨g,0,none⟩),.int .u16 (n16 re)] w fun e' w'=>∃ f',e'=.returned (iv 0)/\Hid (OkP t3 f'.k)/\St w0 X (M++FF g t3 f' L) w'):=Lib.hid (fun M g f w ok hs=>end_d hs ok.out re (by rw[o1];decide) f3)
 have CO3:Hid (∀ (M:List At) (g:Nat) (f:Pf) w,Hid (OkP t3 f.k)->St w0 X (M++FF g t3 f L) w->Calls Tryz.prog 39 #[.pointer (some ⟨g,0,none⟩)] w fun e' w'=>∃ B r c f',e'=.returned (.slice B e3 c)/\Hid (OkP t4 f'.k)/\St w0 X (.own 1 r B e3 c (E3.map v8)::(M++FF g t4 f' L)) w'):=Lib.hid (fun M g f w ok hs=>output_d hs ok.out (by rw[o3,he3]) o3 ht4)
 have CP3:Hid (∀ (M:List At) (r:Option Nat) (B:Option Addr) (c':Nat) w,St w0 X (.own 1 r B e3 c' (E3.map v8)::M) w->Calls Tryz.prog 45 #[.slice B e3 c',.agg F.toArray] w fun e w'=>∃ OB ro oc PX EA ec DA dc R',e=.returned (.tuple #[.slice OB 1 oc,.bool true])/\Hid (PX=pc (ctP re).h EA 0 ec DA 0 dc)/\St w0 X (.own 14 ro OB 1 oc PX::(R'++M)) w'):=Lib.hid (fun M r B c' w hs=>by
  rw[hE3] at hs;rw[hF,<-Pd.fv_eq];refine(parse_d hs (framed_lf (by decide)) (fun p hp=>by obtain rfl:=List.mem_singleton.1 hp;exact v_ctrl re) (show(1:Nat)<1000 by decide) (by rw[he3,hE3]) hle3 rfl).mono ?_;rintro e w' ⟨OB,ro,oc,l,R',h1,h2,h3⟩
  obtain⟨x,rfl⟩:∃ x,l=[x]:=List.length_eq_one_iff.1 (by have:=congrArg List.length h2.out.1;simpa using this)
  obtain⟨p,ta⟩:=x
  obtain rfl:p=ctP re:=by have:=h2.out.1;simpa using this
  refine⟨OB,ro,oc,pc (ctP re).h ta.EA 0 ta.ec ta.DA 0 ta.dc,ta.EA,ta.ec,ta.DA,ta.dc,R',h1,Lib.hid rfl,?_⟩
  have e:pcs [(ctP re,ta)]=pc (ctP re).h ta.EA 0 ta.ec ta.DA 0 ta.dc:=by unfold pcs;rw[List.flatMap_singleton];rfl
  rw[e] at h3;exact h3)
 have CS3:Hid (∀ (M:List At) (PX:List Value) (EA:Option Addr) (ec:Nat) (DA:Option Addr) (dc:Nat) w,Hid (PX=pc (ctP re).h EA 0 ec DA 0 dc)->St w0 X M w->Calls Tryz.prog 32 #[.agg PX.toArray,.agg PC.toArray] w fun e w'=>e=.returned (.bool true)/\St w0 X M w'):=Lib.hid (fun M PX EA ec DA dc w h hs=>by rw[h.out,hPC];exact same_ct hs re EA DA ec dc)
 have CI4:Hid (∀ (a:At) (R' M:List At) (g:Nat) (f:Pf) w,Hid (OkP t4 f.k)->St w0 X (a::(R'++(M++FF g t4 f L))) w->Calls Tryz.prog 41 #[.pointer (some ⟨g,0,none⟩),.int .i64 3,.int .i64 (n16 re),.slice none 0 0] w fun e' w'=>e'=.returned (.bool true)/\St w0 X (FF g t4 f L) w'):=Lib.hid (fun a R' M g f w ok hs=>by
  rw[<-List.append_assoc] at hs;refine(is_z (N:=a::(R'++M)) hs ok.out (by rw[ht4];exact x3) (by rw[ht4];exact p3) (by rw[ht4];show(t3.st:Int)=3;rw[s3];rfl) (by rw[ht4];show(t3.re:Int)=_;rw[r3];rfl)).mono ?_;rintro e w' ⟨h1,h2⟩;exact⟨h1,h2.sub (List.Sublist.cons _ (List.sublist_append_right _ _))⟩)
 have V4:=Lib.hid (show Ov t4 by rw[ht4];exact⟨b3.out [],s3,rfl⟩)
 have V2:=Lib.hid v2
 have BT:Hid (∀ w:World,(Instr.build 65 #[(0,.int .u8 2),(11,.int .u16 (n16 re))]).run Tryz.prog w=.ok (.agg PT.toArray) w):=Lib.hid (by rw[hPT];exact bd_te re)
 have BC:Hid (∀ w:World,(Instr.build 65 #[(0,.int .u8 3),(11,.int .u16 (n16 re))]).run Tryz.prog w=.ok (.agg PC.toArray) w):=Lib.hid (by rw[hPC];exact bd_ct re)
 have PXL:=Lib.hid (show ∀ (PX:List Value) (EA:Option Addr) (ec:Nat) (DA:Option Addr) (dc:Nat),Hid (PX=pc (ctP re).h EA 0 ec DA 0 dc)->PX.length=14 from fun PX EA ec DA dc h=>by rw[h.out];rfl)
 have WR:IntKind.i64.wrap (n16 re)=n16 re:=IntWalk.i64_in _ (by have:=Bv.n16_lo re;have:=Bv.n16_hi re;omega)
 obtain⟨E6,hE6⟩:∃ E,E=kE16.map v8:=⟨_,rfl⟩
 have B6:Hid (∀ w:World,(Instr.build 98 #[]).run Tryz.prog w=.ok (.agg E6.toArray) w):=Lib.hid (by rw[hE6];exact bd_e16)
 have CFo:Hid (∀ (t:Ss) (g:Nat) (f:Pf) w,Hid (OkP t f.k)->Hid (Ov t)->St w0 X (FF g t f L) w->Calls Tryz.prog 37 #[.pointer (some ⟨g,0,none⟩),.slice A n ca] w fun e' w'=>∃ RB rc f',e'=.returned (.tuple #[.slice RB 0 rc,iv 8])/\Hid (OkP t f'.k)/\St w0 X (FF g t f' L) w'):=Lib.hid (fun t g f w ok v hs =>
  feed_d (N:=[]) hs ok.out v.out.b bs hn hx (by have:=HN5.out;omega) (by rw[v.out.o];decide) (feed_over v.out.st bs) rfl)
 have CRo:Hid (∀ (t:Ss) (g:Nat) (f:Pf) w,Hid (OkP t f.k)->Hid (Ov t)->St w0 X (FF g t f L) w->Calls Tryz.prog 46 #[.pointer (some ⟨g,0,none⟩),.int .u16 1,.agg E6.toArray,.slice none 0 0] w fun e' w'=>∃ f',e'=.returned (iv 8)/\Hid (OkP t f'.k)/\St w0 X (FF g t f' L) w'):=Lib.hid (fun t g f w ok v hs=>by
  rw[hE6];exact reply_d (N:=[]) hs ok.out v.out.b.i 1#16 kE16 [] rfl rfl Reads.nil (fun h=>absurd h (Nat.lt_irrefl _)) (Nat.le_refl _) (by decide) (by rw[v.out.o];decide) (reply_over (by rw[v.out.st];decide) _ _ _))
 have CEo:Hid (∀ (t:Ss) (g:Nat) (f:Pf) w,Hid (OkP t f.k)->Hid (Ov t)->St w0 X (FF g t f L) w->Calls Tryz.prog 47 #[.pointer (some ⟨g,0,none⟩),.int .u16 1] w fun e' w'=>∃ f',e'=.returned (iv 8)/\Hid (OkP t f'.k)/\St w0 X (FF g t f' L) w'):=Lib.hid (fun t g f w ok v hs=>end_d (N:=[]) hs ok.out 1#16 (by rw[v.out.o];decide) (fin_over v.out.st 1#16))
 have COo:Hid (∀ (t:Ss) (g:Nat) (f:Pf) w,Hid (OkP t f.k)->Hid (Ov t)->St w0 X (FF g t f L) w->Calls Tryz.prog 39 #[.pointer (some ⟨g,0,none⟩)] w fun e' w'=>∃ B c f',e'=.returned (.slice B 0 c)/\Hid (OkP t f'.k)/\St w0 X (FF g t f' L) w'):=Lib.hid (fun t g f w ok v hs=>output_n (N:=[]) hs ok.out v.out.o)
 rw[<-hR];clear hR hv ral hcc f1 b0 o0 b1 o1 f2 v2 r2 x2 p2 f3 s3 r3 x3 p3 o3 b3 hs0 hF hF2 hEB hE1 he1 hE2 he2 hE3 he3 hPT hPC ht4 hf1 hle1 hle2 hle3 hn hx hE6 hc
 go_enter Tryz.func11,Tryz.ntmps11
 go_upto_region 8 with (first|((with_reducible refine Se.iL 4 ?_);(refine Se.toL rfl (Se.bx (o:=⟨some 4,_,_,_,_,_⟩) hs rfl rfl (l:=R) rfl ?_);clear hs;rintro w g4-hs))|((with_reducible refine Se.iL 24 ?_);(refine Se.Ldw hs rfl rfl (Reads.blk 0 rfl) (by rw[RL.out];kernel_rfl) ?_))|((with_reducible refine Se.iL 10 ?_);(refine Se.Al hs rfl (fm_z) ?_;clear hs;rintro w g10-hs))|((with_reducible refine Se.iL 11 ?_);(refine Se.Al hs rfl (fm_z) ?_;clear hs;rintro w g11-hs))|((with_reducible refine Se.iN ?_);(refine Se.Sow 0 hs rfl rfl rfl rfl (FO.out) (by rw[FL.out];kernel_rfl) (by rw[FL.out];rfl) ?_;clear hs;intro w hs;try simp only[pS] at hs))|((with_reducible refine Se.iL 36 ?_);(refine Se.Ldw hs rfl rfl (Reads.blk 0 rfl) (by rw[FL.out];kernel_rfl) ?_))|((with_reducible refine Se.iL 63 ?_);(refine Se.Ld hs rfl rfl (Cell.blk 2 rfl R2.out) ?_))|((with_reducible refine Se.iL 38 ?_);(refine Se.Ld hs rfl rfl (Cell.blk 2 rfl R2.out) ?_))|((with_reducible refine Se.isL (o:=⟨none,Op.store 3 _ _,_,_,_,_⟩) ?_);(refine Se.Soq 0 hs rfl rfl rfl (by rw[FL.out];omega) (FS.out) ?_;clear hs;intro w hs;try simp only[pS] at hs))|((first|with_reducible refine Se.ab hs ?_|with_reducible refine Se.abc hs ?_);clear hs;(first|(generalize w.heap.size=g4;intro w hs)))|(go_at_call 43;refine Calls.mono (CL.out _ _ hs) ?_;clear hs;rintro e w ⟨g,f,rfl,ok,hs⟩))
 clear CL;refine Ch.region' 5 (fun wx=>Blk wx g11 F2 54) (fun|2=>true|3=>true|4=>true|_=>false) (by kernel_rfl) (by decide +kernel) (hs.drew.hold (.blk g11 54 F2) (by simp)) ?_;replace hs:=hs.drew;generalize w.drew=w at hs ⊢;change Ch.CW _ _ _ _ _ [0,1,2,3,4] _ _
 iterate 2 ((first|refine Ch.pA ?_|refine Ch.pE (hv:=fun wx hS=>Se.xR (hr:=(Li.Rd.of_blk hS)) (hi:=(by rw[F2L.out];kernel_rfl))) (h:=?_));(try simp only[pU]))
 refine Ch.cA (f:=29) (args:=#[.int .u8 2,.int .u16 1,.int .i64 5,.int .u8 90]) (CEn.out _ _ hs) ?_;clear hs;rintro e w⟨rfl,hs⟩;refine⟨_,rfl,hs.hold (.blk g11 54 F2) (by simp),?_⟩;(try simp only[pU]);refine Ch.cA (f:=44) (args:=#[.agg F2.toArray,.agg EB.toArray,.slice none 0 0]) (CCm.out _ _ hs) ?_;clear hs;rintro e w⟨r1,B1,c1,rfl,hs⟩;refine⟨_,rfl,hs.hold (.blk g11 54 F2) (by simp),?_⟩;(try simp only[pU]);refine Ch.cA (f:=37) (args:=#[.pointer (some ⟨g,0,none⟩),.slice B1 e1 c1]) (CF1.out [_,_,_] _ _ _ _ _ _ ok hs) ?_;clear hs;rintro e w⟨RB1,rc1,f1,rfl,ok1,hs⟩;refine⟨_,rfl,hs.hold (.blk g11 54 F2) (by simp),?_⟩;(try simp only[pU]);refine Ch.done ?_
 try simp only[List.drop_succ_cons,List.drop_zero]
 clear CEn CCm CF1 ok
 go_upto_if 45 with (fail)
 (try simp only[pU])
 go_cut [9] (fun s9 wx=>∃ (g:Nat) (f:Pf) (t:Ss),s9=.pointer (some ⟨g,0,none⟩)/\Hid (OkP t f.k)/\Hid (Ov t)/\St w0 X (FF g t f L) wx)
 case first =>
  cases ak with
  | true =>
   go_wp2_with (first|((with_reducible refine Se.iL 49 ?_);(refine Se.Bd rfl rfl (BT.out _) ?_))|((with_reducible refine Se.iL 50 ?_);(refine Se.Ldw hs rfl rfl (Reads.blk 0 rfl) (by rw[F2L.out];kernel_rfl) ?_))|(go_at_call 28;refine Calls.mono (CET.out _ _ hs) ?_;clear hs;rintro e w ⟨r2,B2,c2,rfl,hs⟩)|(go_at_call 37;refine Calls.mono (CF2.out [_,_,_] _ _ _ _ _ _ ok1 hs) ?_;clear hs;rintro e w ⟨RB2,rc2,f2,rfl,ok2,hs⟩)|(go_at_call 39;refine Calls.mono (CO2.out [_,_,_] _ _ _ ok2 hs) ?_;clear hs;rintro e w ⟨B3,c3,f3,rfl,ok3,hs⟩)|(go_at_call 41;refine Calls.mono (CI2.out [_,_,_] _ _ _ ok3 hs) ?_;clear hs;rintro e w ⟨rfl,hs⟩))
   go_meet;exact⟨g,f3,t2,rfl,ok3,V2,hs.drop.drop.drop⟩
  | false =>
   go_upto_region 14 with (first|(go_at_call 47;refine Calls.mono (CE3.out [_,_,_] _ _ _ ok1 hs) ?_;clear hs;rintro e w ⟨f2,rfl,ok2,hs⟩))
   refine Ch.region' 9 (fun wx=>Blk wx g10 F 54) (fun|1=>true|3=>true|_=>false) (by kernel_rfl) (by decide +kernel) (hs.drew.hold (.blk g10 54 F) (by simp)) ?_;replace hs:=hs.drew;generalize w.drew=w at hs ⊢;change Ch.CW _ _ _ _ _ [0,1,2,3,4,5,6,7,8] _ _
   iterate 1 (refine Ch.pA ?_;(try simp only[pU]))
   refine Ch.cA (f:=39) (args:=#[.pointer (some ⟨g,0,none⟩)]) (CO3.out [_,_,_] _ _ _ ok2 hs) ?_;clear hs;rintro e w⟨B3,r3,c3,f3,rfl,ok3,hs⟩;refine⟨_,rfl,hs.hold (.blk g10 54 F) (by simp),?_⟩;(try simp only[pU])
   iterate 1 ((first|refine Ch.pA ?_|refine Ch.pE (hv:=fun wx hS=>Se.xR (hr:=(Li.Rd.of_blk hS)) (hi:=(by rw[FL.out];kernel_rfl))) (h:=?_));(try simp only[pU]))
   refine Ch.cA (f:=45) (args:=#[.slice B3 e3 c3,.agg F.toArray]) (CP3.out _ _ _ _ _ hs) ?_;clear hs;rintro e w⟨OB,ro,oc,PX,EA,ec,DA,dc,R',rfl,hPX,hs⟩;refine⟨_,rfl,hs.hold (.blk g10 54 F) (by simp),?_⟩;(try simp only[pU])
   iterate 5 (refine Ch.pA ?_;(try simp only[pU]))
   refine Ch.done ?_
   try simp only[List.drop_succ_cons,List.drop_zero]
   obtain⟨go,oo,rfl,rfl⟩:=hs.own_at 0 rfl (by decide)
   go_wp2_with (first|((with_reducible refine Se.iL 97 ?_);(refine Se.Ldw hs rfl rfl (Reads.own 0 rfl) (by rw[PXL.out _ _ _ _ _ hPX];kernel_rfl) ?_))|((with_reducible refine Se.iL 99 ?_);(refine Se.Bd rfl rfl (BC.out _) ?_))|(go_at_call 32;refine Calls.mono (CS3.out _ _ _ _ _ _ _ hPX hs) ?_;clear hs;rintro e w ⟨rfl,hs⟩)|(go_at_call 41;refine Calls.mono (CI4.out _ R' [_,_,_] _ _ _ ok3 hs) ?_;clear hs;rintro e w ⟨rfl,hs⟩))
   go_meet;exact⟨g,f3,t4,rfl,ok3,V4,hs⟩
 case rest =>
 clear hs ok1 V2 V4 CET CF2 CO2 CI2 CE3 CO3 CP3 CS3 CI4 BT BC PXL
 obtain⟨g,f,t,rfl,ok,v,hs⟩:=hcut
 rename World=>w
 go_wp2_with (first|((with_reducible refine Se.iL 125 ?_);(refine Se.Bd rfl rfl (B6.out _) ?_))|(go_at_call 37;refine Calls.mono (CFo.out _ _ _ _ ok v hs) ?_;clear hs;rintro e w ⟨RB,rc,f5,rfl,ok5,hs⟩)|(go_at_call 46;refine Calls.mono (CRo.out _ _ _ _ ok5 v hs) ?_;clear hs;rintro e w ⟨f6,rfl,ok6,hs⟩)|(go_at_call 47;refine Calls.mono (CEo.out _ _ _ _ ok6 v hs) ?_;clear hs;rintro e w ⟨f7,rfl,ok7,hs⟩)|(go_at_call 39;refine Calls.mono (COo.out _ _ _ _ ok7 v hs) ?_;clear hs;rintro e w ⟨B8,c8,f8,rfl,ok8,hs⟩)|(go_at_call 35;refine Calls.mono (CK.out _ _ hs) ?_;clear hs;rintro e w ⟨rfl,hs⟩))
 go_ret;exact⟨rfl,hs.sub FF_sub⟩
theorem ends_any(r:Rw)(re:BitVec 16)(ak:Bool)(bs:Bs){A:Option Addr}{n ca:Nat}(W:World)(hn:n=bs.length)(hr:Rd W A (bs.map v8)):Calls Tryz.prog 11 #[.agg (rwl r).toArray,.int .u16 (n16 re),.bool ak,.slice A n ca] W fun e w'=>e=.returned (.bool true)/\Below W.heap.size W w' :=
 (ends_st (L:=[.rd A (bs.map v8)]) (St.start W (by simpa [At.holds] using hr) rfl) r re ak bs hn (Reads.rd 0 rfl)).mono fun e w' h=>⟨h.1,h.2.below⟩
end Sn
end Go.Proofs.YtjnllcnknjlmmaaGreat
