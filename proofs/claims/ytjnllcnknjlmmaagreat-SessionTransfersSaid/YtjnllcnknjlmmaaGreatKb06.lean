/- Layer 41. -/
import Derived.Test.YtjnllcnknjlmmaaGreatKa22
import Derived.Test.YtjnllcnknjlmmaaGreatKb05
set_option linter.unusedSimpArgs false
set_option linter.unusedVariables false
set_option maxRecDepth 100000
set_option maxHeartbeats 4000000
namespace Go.Proofs.YtjnllcnknjlmmaaGreat
open Go Go.RowKit
namespace Sn
open Se (St At Cell)
variable {w0 w:World} {X:List Nat} {L:List At}
attribute [local irreducible] Calls
theorem rvalid_st(hs:St w0 X L w)(r:Rw):Calls Tryz.prog 25 #[.agg (rwl r).toArray] w fun e w'=>e=.returned (.bool (vB r))/\St w0 X L w':=by
 obtain⟨R,hR⟩:∃ R,R=rwl r:=⟨_,rfl⟩
 obtain⟨al,hal⟩:∃ x,x=r.al:=⟨_,rfl⟩
 have R2:=Lib.hid (show R[2]? = some (.int .i64 al) by rw[hR,hal];rfl)
 obtain⟨ic,hic⟩:∃ x,x=r.ic:=⟨_,rfl⟩
 have R3:=Lib.hid (show R[3]? = some (.int .i64 ic) by rw[hR,hic];rfl)
 obtain⟨md,hmd⟩:∃ x,x=r.md:=⟨_,rfl⟩
 have R4:=Lib.hid (show R[4]? = some (.int .i64 md) by rw[hR,hmd];rfl)
 obtain⟨tr,htr⟩:∃ x,x=r.tr:=⟨_,rfl⟩
 have R5:=Lib.hid (show R[5]? = some (.int .i64 tr) by rw[hR,htr];rfl)
 obtain⟨os,hos⟩:∃ x,x=r.os:=⟨_,rfl⟩
 have R6:=Lib.hid (show R[6]? = some (.int .i64 os) by rw[hR,hos];rfl)
 have E:=Lib.hid (show vB r=(btw al 0 31&&btw ic 0 8192&&btw md 4096 1048576&&m4 md&&btw tr 4096 1048576&&m4 tr&&btw os 1 256) by rw[hal,hic,hmd,htr,hos];rfl)
 have M4:∃ b,(Int.tmod md 4==0)=b:=⟨_,rfl⟩
 have M6:∃ b,(Int.tmod tr 4==0)=b:=⟨_,rfl⟩
 rw[<-hR];clear hR hal hic hmd htr hos;clear M4 M6
 by_cases c0:al<0
 ·have E2:=Lib.hid (show vB r=false by rw[E.out];unfold btw;simp only[Bool.and_eq_false_iff,decide_eq_false_iff_not];omega)
  clear E
  go_enter Tryz.func25,Tryz.ntmps25
  go_wp2_with (first|((with_reducible refine Se.iL 4 ?_);(refine Se.Ld hs rfl rfl (Cell.blk 0 rfl R2.out) ?_))|((first|with_reducible refine Se.ab hs ?_|with_reducible refine Se.abc hs ?_);clear hs;(first|(generalize w.heap.size=g1;intro w hs))))
  go_ret;exact⟨by rw[E2.out];rfl,hs.drop⟩
 ·by_cases c1:31<al
  ·have E2:=Lib.hid (show vB r=false by rw[E.out];unfold btw;simp only[Bool.and_eq_false_iff,decide_eq_false_iff_not];omega)
   clear E
   go_enter Tryz.func25,Tryz.ntmps25
   go_wp2_with (first|((with_reducible refine Se.iL 4 ?_);(refine Se.Ld hs rfl rfl (Cell.blk 0 rfl R2.out) ?_))|((with_reducible refine Se.iL 8 ?_);(refine Se.Ld hs rfl rfl (Cell.blk 0 rfl R2.out) ?_))|((first|with_reducible refine Se.ab hs ?_|with_reducible refine Se.abc hs ?_);clear hs;(first|(generalize w.heap.size=g1;intro w hs))))
   go_ret;exact⟨by rw[E2.out];rfl,hs.drop⟩
  ·by_cases c2:ic<0
   ·have E2:=Lib.hid (show vB r=false by rw[E.out];unfold btw;simp only[Bool.and_eq_false_iff,decide_eq_false_iff_not];omega)
    clear E
    go_enter Tryz.func25,Tryz.ntmps25
    go_wp2_with (first|((with_reducible refine Se.iL 4 ?_);(refine Se.Ld hs rfl rfl (Cell.blk 0 rfl R2.out) ?_))|((with_reducible refine Se.iL 8 ?_);(refine Se.Ld hs rfl rfl (Cell.blk 0 rfl R2.out) ?_))|((with_reducible refine Se.iL 13 ?_);(refine Se.Ld hs rfl rfl (Cell.blk 0 rfl R3.out) ?_))|((first|with_reducible refine Se.ab hs ?_|with_reducible refine Se.abc hs ?_);clear hs;(first|(generalize w.heap.size=g1;intro w hs))))
    go_ret;exact⟨by rw[E2.out];rfl,hs.drop⟩
   ·by_cases c3:8192<ic
    ·have E2:=Lib.hid (show vB r=false by rw[E.out];unfold btw;simp only[Bool.and_eq_false_iff,decide_eq_false_iff_not];omega)
     clear E
     go_enter Tryz.func25,Tryz.ntmps25
     go_wp2_with (first|((with_reducible refine Se.iL 4 ?_);(refine Se.Ld hs rfl rfl (Cell.blk 0 rfl R2.out) ?_))|((with_reducible refine Se.iL 8 ?_);(refine Se.Ld hs rfl rfl (Cell.blk 0 rfl R2.out) ?_))|((with_reducible refine Se.iL 13 ?_);(refine Se.Ld hs rfl rfl (Cell.blk 0 rfl R3.out) ?_))|((with_reducible refine Se.iL 18 ?_);(refine Se.Ld hs rfl rfl (Cell.blk 0 rfl R3.out) ?_))|((first|with_reducible refine Se.ab hs ?_|with_reducible refine Se.abc hs ?_);clear hs;(first|(generalize w.heap.size=g1;intro w hs))))
     go_ret;exact⟨by rw[E2.out];rfl,hs.drop⟩
    ·by_cases c4:os<1
     ·have E2:=Lib.hid (show vB r=false by rw[E.out];unfold btw;simp only[Bool.and_eq_false_iff,decide_eq_false_iff_not];omega)
      clear E
      go_enter Tryz.func25,Tryz.ntmps25
      go_wp2_with (first|((with_reducible refine Se.iL 4 ?_);(refine Se.Ld hs rfl rfl (Cell.blk 0 rfl R2.out) ?_))|((with_reducible refine Se.iL 8 ?_);(refine Se.Ld hs rfl rfl (Cell.blk 0 rfl R2.out) ?_))|((with_reducible refine Se.iL 13 ?_);(refine Se.Ld hs rfl rfl (Cell.blk 0 rfl R3.out) ?_))|((with_reducible refine Se.iL 18 ?_);(refine Se.Ld hs rfl rfl (Cell.blk 0 rfl R3.out) ?_))|((with_reducible refine Se.iL 23 ?_);(refine Se.Ld hs rfl rfl (Cell.blk 0 rfl R6.out) ?_))|((first|with_reducible refine Se.ab hs ?_|with_reducible refine Se.abc hs ?_);clear hs;(first|(generalize w.heap.size=g1;intro w hs))))
      go_ret;exact⟨by rw[E2.out];rfl,hs.drop⟩
     ·by_cases c5:256<os
      ·have E2:=Lib.hid (show vB r=false by rw[E.out];unfold btw;simp only[Bool.and_eq_false_iff,decide_eq_false_iff_not];omega)
       clear E
       go_enter Tryz.func25,Tryz.ntmps25
       go_wp2_with (first|((with_reducible refine Se.iL 4 ?_);(refine Se.Ld hs rfl rfl (Cell.blk 0 rfl R2.out) ?_))|((with_reducible refine Se.iL 8 ?_);(refine Se.Ld hs rfl rfl (Cell.blk 0 rfl R2.out) ?_))|((with_reducible refine Se.iL 13 ?_);(refine Se.Ld hs rfl rfl (Cell.blk 0 rfl R3.out) ?_))|((with_reducible refine Se.iL 18 ?_);(refine Se.Ld hs rfl rfl (Cell.blk 0 rfl R3.out) ?_))|((with_reducible refine Se.iL 23 ?_);(refine Se.Ld hs rfl rfl (Cell.blk 0 rfl R6.out) ?_))|((with_reducible refine Se.iL 28 ?_);(refine Se.Ld hs rfl rfl (Cell.blk 0 rfl R6.out) ?_))|((first|with_reducible refine Se.ab hs ?_|with_reducible refine Se.abc hs ?_);clear hs;(first|(generalize w.heap.size=g1;intro w hs))))
       go_ret;exact⟨by rw[E2.out];rfl,hs.drop⟩
      ·by_cases d0:4096<=md
       ·by_cases d1:md<=1048576
        ·by_cases d2:Int.tmod md 4=0
         ·have e2:(md%4==0)=true:=by rw[<-Int.tmod_eq_emod_of_nonneg (show 0<=md by omega)];simpa using d2
          by_cases d3:4096<=tr
          ·by_cases d4:tr<=1048576
           ·by_cases d5:Int.tmod tr 4=0
            ·have e5:(tr%4==0)=true:=by rw[<-Int.tmod_eq_emod_of_nonneg (show 0<=tr by omega)];simpa using d5
             have E2:=Lib.hid (show vB r=true by rw[E.out];unfold btw m4;simp only[Bool.and_eq_true,decide_eq_true_eq,beq_iff_eq];omega)
             clear E
             go_enter Tryz.func25,Tryz.ntmps25
             go_wp2_with (first|((with_reducible refine Se.iL 4 ?_);(refine Se.Ld hs rfl rfl (Cell.blk 0 rfl R2.out) ?_))|((with_reducible refine Se.iL 8 ?_);(refine Se.Ld hs rfl rfl (Cell.blk 0 rfl R2.out) ?_))|((with_reducible refine Se.iL 13 ?_);(refine Se.Ld hs rfl rfl (Cell.blk 0 rfl R3.out) ?_))|((with_reducible refine Se.iL 18 ?_);(refine Se.Ld hs rfl rfl (Cell.blk 0 rfl R3.out) ?_))|((with_reducible refine Se.iL 23 ?_);(refine Se.Ld hs rfl rfl (Cell.blk 0 rfl R6.out) ?_))|((with_reducible refine Se.iL 28 ?_);(refine Se.Ld hs rfl rfl (Cell.blk 0 rfl R6.out) ?_))|((with_reducible refine Se.iL 32 ?_);(refine Se.Ld hs rfl rfl (Cell.blk 0 rfl R4.out) ?_))|((with_reducible refine Se.iL 36 ?_);(refine Se.Ld hs rfl rfl (Cell.blk 0 rfl R4.out) ?_))|((with_reducible refine Se.iL 41 ?_);(refine Se.Ld hs rfl rfl (Cell.blk 0 rfl R4.out) ?_))|((with_reducible refine Se.iL 47 ?_);(refine Se.Ld hs rfl rfl (Cell.blk 0 rfl R5.out) ?_))|((with_reducible refine Se.iL 52 ?_);(refine Se.Ld hs rfl rfl (Cell.blk 0 rfl R5.out) ?_))|((with_reducible refine Se.iL 57 ?_);(refine Se.Ld hs rfl rfl (Cell.blk 0 rfl R5.out) ?_))|((first|with_reducible refine Se.ab hs ?_|with_reducible refine Se.abc hs ?_);clear hs;(first|(generalize w.heap.size=g1;intro w hs))))
             go_ret;exact⟨by rw[E2.out];rfl,hs.drop⟩
            ·have e5:(tr%4==0)=false:=by rw[<-Int.tmod_eq_emod_of_nonneg (show 0<=tr by omega)];simpa using d5
             have E2:=Lib.hid (show vB r=false by rw[E.out];unfold btw m4;simp only[Bool.and_eq_false_iff,decide_eq_false_iff_not,beq_eq_false_iff_ne,ne_eq];omega)
             clear E
             go_enter Tryz.func25,Tryz.ntmps25
             go_wp2_with (first|((with_reducible refine Se.iL 4 ?_);(refine Se.Ld hs rfl rfl (Cell.blk 0 rfl R2.out) ?_))|((with_reducible refine Se.iL 8 ?_);(refine Se.Ld hs rfl rfl (Cell.blk 0 rfl R2.out) ?_))|((with_reducible refine Se.iL 13 ?_);(refine Se.Ld hs rfl rfl (Cell.blk 0 rfl R3.out) ?_))|((with_reducible refine Se.iL 18 ?_);(refine Se.Ld hs rfl rfl (Cell.blk 0 rfl R3.out) ?_))|((with_reducible refine Se.iL 23 ?_);(refine Se.Ld hs rfl rfl (Cell.blk 0 rfl R6.out) ?_))|((with_reducible refine Se.iL 28 ?_);(refine Se.Ld hs rfl rfl (Cell.blk 0 rfl R6.out) ?_))|((with_reducible refine Se.iL 32 ?_);(refine Se.Ld hs rfl rfl (Cell.blk 0 rfl R4.out) ?_))|((with_reducible refine Se.iL 36 ?_);(refine Se.Ld hs rfl rfl (Cell.blk 0 rfl R4.out) ?_))|((with_reducible refine Se.iL 41 ?_);(refine Se.Ld hs rfl rfl (Cell.blk 0 rfl R4.out) ?_))|((with_reducible refine Se.iL 47 ?_);(refine Se.Ld hs rfl rfl (Cell.blk 0 rfl R5.out) ?_))|((with_reducible refine Se.iL 52 ?_);(refine Se.Ld hs rfl rfl (Cell.blk 0 rfl R5.out) ?_))|((with_reducible refine Se.iL 57 ?_);(refine Se.Ld hs rfl rfl (Cell.blk 0 rfl R5.out) ?_))|((first|with_reducible refine Se.ab hs ?_|with_reducible refine Se.abc hs ?_);clear hs;(first|(generalize w.heap.size=g1;intro w hs))))
             go_ret;exact⟨by rw[E2.out];rfl,hs.drop⟩
           ·have E2:=Lib.hid (show vB r=false by rw[E.out];unfold btw m4;simp only[Bool.and_eq_false_iff,decide_eq_false_iff_not,beq_eq_false_iff_ne,ne_eq];omega)
            clear E
            go_enter Tryz.func25,Tryz.ntmps25
            go_wp2_with (first|((with_reducible refine Se.iL 4 ?_);(refine Se.Ld hs rfl rfl (Cell.blk 0 rfl R2.out) ?_))|((with_reducible refine Se.iL 8 ?_);(refine Se.Ld hs rfl rfl (Cell.blk 0 rfl R2.out) ?_))|((with_reducible refine Se.iL 13 ?_);(refine Se.Ld hs rfl rfl (Cell.blk 0 rfl R3.out) ?_))|((with_reducible refine Se.iL 18 ?_);(refine Se.Ld hs rfl rfl (Cell.blk 0 rfl R3.out) ?_))|((with_reducible refine Se.iL 23 ?_);(refine Se.Ld hs rfl rfl (Cell.blk 0 rfl R6.out) ?_))|((with_reducible refine Se.iL 28 ?_);(refine Se.Ld hs rfl rfl (Cell.blk 0 rfl R6.out) ?_))|((with_reducible refine Se.iL 32 ?_);(refine Se.Ld hs rfl rfl (Cell.blk 0 rfl R4.out) ?_))|((with_reducible refine Se.iL 36 ?_);(refine Se.Ld hs rfl rfl (Cell.blk 0 rfl R4.out) ?_))|((with_reducible refine Se.iL 41 ?_);(refine Se.Ld hs rfl rfl (Cell.blk 0 rfl R4.out) ?_))|((with_reducible refine Se.iL 47 ?_);(refine Se.Ld hs rfl rfl (Cell.blk 0 rfl R5.out) ?_))|((with_reducible refine Se.iL 52 ?_);(refine Se.Ld hs rfl rfl (Cell.blk 0 rfl R5.out) ?_))|((first|with_reducible refine Se.ab hs ?_|with_reducible refine Se.abc hs ?_);clear hs;(first|(generalize w.heap.size=g1;intro w hs))))
            go_ret;exact⟨by rw[E2.out];rfl,hs.drop⟩
          ·have E2:=Lib.hid (show vB r=false by rw[E.out];unfold btw m4;simp only[Bool.and_eq_false_iff,decide_eq_false_iff_not,beq_eq_false_iff_ne,ne_eq];omega)
           clear E
           go_enter Tryz.func25,Tryz.ntmps25
           go_wp2_with (first|((with_reducible refine Se.iL 4 ?_);(refine Se.Ld hs rfl rfl (Cell.blk 0 rfl R2.out) ?_))|((with_reducible refine Se.iL 8 ?_);(refine Se.Ld hs rfl rfl (Cell.blk 0 rfl R2.out) ?_))|((with_reducible refine Se.iL 13 ?_);(refine Se.Ld hs rfl rfl (Cell.blk 0 rfl R3.out) ?_))|((with_reducible refine Se.iL 18 ?_);(refine Se.Ld hs rfl rfl (Cell.blk 0 rfl R3.out) ?_))|((with_reducible refine Se.iL 23 ?_);(refine Se.Ld hs rfl rfl (Cell.blk 0 rfl R6.out) ?_))|((with_reducible refine Se.iL 28 ?_);(refine Se.Ld hs rfl rfl (Cell.blk 0 rfl R6.out) ?_))|((with_reducible refine Se.iL 32 ?_);(refine Se.Ld hs rfl rfl (Cell.blk 0 rfl R4.out) ?_))|((with_reducible refine Se.iL 36 ?_);(refine Se.Ld hs rfl rfl (Cell.blk 0 rfl R4.out) ?_))|((with_reducible refine Se.iL 41 ?_);(refine Se.Ld hs rfl rfl (Cell.blk 0 rfl R4.out) ?_))|((with_reducible refine Se.iL 47 ?_);(refine Se.Ld hs rfl rfl (Cell.blk 0 rfl R5.out) ?_))|((first|with_reducible refine Se.ab hs ?_|with_reducible refine Se.abc hs ?_);clear hs;(first|(generalize w.heap.size=g1;intro w hs))))
           go_ret;exact⟨by rw[E2.out];rfl,hs.drop⟩
         ·have e2:(md%4==0)=false:=by rw[<-Int.tmod_eq_emod_of_nonneg (show 0<=md by omega)];simpa using d2
          have E2:=Lib.hid (show vB r=false by rw[E.out];unfold btw m4;simp only[Bool.and_eq_false_iff,decide_eq_false_iff_not,beq_eq_false_iff_ne,ne_eq];omega)
          clear E
          go_enter Tryz.func25,Tryz.ntmps25
          go_wp2_with (first|((with_reducible refine Se.iL 4 ?_);(refine Se.Ld hs rfl rfl (Cell.blk 0 rfl R2.out) ?_))|((with_reducible refine Se.iL 8 ?_);(refine Se.Ld hs rfl rfl (Cell.blk 0 rfl R2.out) ?_))|((with_reducible refine Se.iL 13 ?_);(refine Se.Ld hs rfl rfl (Cell.blk 0 rfl R3.out) ?_))|((with_reducible refine Se.iL 18 ?_);(refine Se.Ld hs rfl rfl (Cell.blk 0 rfl R3.out) ?_))|((with_reducible refine Se.iL 23 ?_);(refine Se.Ld hs rfl rfl (Cell.blk 0 rfl R6.out) ?_))|((with_reducible refine Se.iL 28 ?_);(refine Se.Ld hs rfl rfl (Cell.blk 0 rfl R6.out) ?_))|((with_reducible refine Se.iL 32 ?_);(refine Se.Ld hs rfl rfl (Cell.blk 0 rfl R4.out) ?_))|((with_reducible refine Se.iL 36 ?_);(refine Se.Ld hs rfl rfl (Cell.blk 0 rfl R4.out) ?_))|((with_reducible refine Se.iL 41 ?_);(refine Se.Ld hs rfl rfl (Cell.blk 0 rfl R4.out) ?_))|((first|with_reducible refine Se.ab hs ?_|with_reducible refine Se.abc hs ?_);clear hs;(first|(generalize w.heap.size=g1;intro w hs))))
          go_ret;exact⟨by rw[E2.out];rfl,hs.drop⟩
        ·have E2:=Lib.hid (show vB r=false by rw[E.out];unfold btw m4;simp only[Bool.and_eq_false_iff,decide_eq_false_iff_not,beq_eq_false_iff_ne,ne_eq];omega)
         clear E
         go_enter Tryz.func25,Tryz.ntmps25
         go_wp2_with (first|((with_reducible refine Se.iL 4 ?_);(refine Se.Ld hs rfl rfl (Cell.blk 0 rfl R2.out) ?_))|((with_reducible refine Se.iL 8 ?_);(refine Se.Ld hs rfl rfl (Cell.blk 0 rfl R2.out) ?_))|((with_reducible refine Se.iL 13 ?_);(refine Se.Ld hs rfl rfl (Cell.blk 0 rfl R3.out) ?_))|((with_reducible refine Se.iL 18 ?_);(refine Se.Ld hs rfl rfl (Cell.blk 0 rfl R3.out) ?_))|((with_reducible refine Se.iL 23 ?_);(refine Se.Ld hs rfl rfl (Cell.blk 0 rfl R6.out) ?_))|((with_reducible refine Se.iL 28 ?_);(refine Se.Ld hs rfl rfl (Cell.blk 0 rfl R6.out) ?_))|((with_reducible refine Se.iL 32 ?_);(refine Se.Ld hs rfl rfl (Cell.blk 0 rfl R4.out) ?_))|((with_reducible refine Se.iL 36 ?_);(refine Se.Ld hs rfl rfl (Cell.blk 0 rfl R4.out) ?_))|((first|with_reducible refine Se.ab hs ?_|with_reducible refine Se.abc hs ?_);clear hs;(first|(generalize w.heap.size=g1;intro w hs))))
         go_ret;exact⟨by rw[E2.out];rfl,hs.drop⟩
       ·have E2:=Lib.hid (show vB r=false by rw[E.out];unfold btw m4;simp only[Bool.and_eq_false_iff,decide_eq_false_iff_not,beq_eq_false_iff_ne,ne_eq];omega)
        clear E
        go_enter Tryz.func25,Tryz.ntmps25
        go_wp2_with (first|((with_reducible refine Se.iL 4 ?_);(refine Se.Ld hs rfl rfl (Cell.blk 0 rfl R2.out) ?_))|((with_reducible refine Se.iL 8 ?_);(refine Se.Ld hs rfl rfl (Cell.blk 0 rfl R2.out) ?_))|((with_reducible refine Se.iL 13 ?_);(refine Se.Ld hs rfl rfl (Cell.blk 0 rfl R3.out) ?_))|((with_reducible refine Se.iL 18 ?_);(refine Se.Ld hs rfl rfl (Cell.blk 0 rfl R3.out) ?_))|((with_reducible refine Se.iL 23 ?_);(refine Se.Ld hs rfl rfl (Cell.blk 0 rfl R6.out) ?_))|((with_reducible refine Se.iL 28 ?_);(refine Se.Ld hs rfl rfl (Cell.blk 0 rfl R6.out) ?_))|((with_reducible refine Se.iL 32 ?_);(refine Se.Ld hs rfl rfl (Cell.blk 0 rfl R4.out) ?_))|((first|with_reducible refine Se.ab hs ?_|with_reducible refine Se.abc hs ?_);clear hs;(first|(generalize w.heap.size=g1;intro w hs))))
        go_ret;exact⟨by rw[E2.out];rfl,hs.drop⟩
end Sn
end Go.Proofs.YtjnllcnknjlmmaaGreat
namespace Go.Proofs.YtjnllcnknjlmmaaGreat
open Go Go.RowKit
namespace Sn
open Pd (Fm PDU pc iv fl fv)
open Sr (Rc rcl nextE)
open Se (St At Reads)
open Li (v8 Rd Blk)
variable {w0 w:World} {X:List Nat} {L:List At}
attribute [local irreducible] Calls
structure Ta where
 EA:Option Addr
 ec:Nat
 DA:Option Addr
 dc:Nat
def pcv(x:PDU × Ta):List Value:=pc x.1.h x.2.EA x.1.en.length x.2.ec x.2.DA x.1.da.length x.2.dc
def pcs(l:List (PDU × Ta)):List Value:=l.flatMap pcv
def RdP(M:List At)(l:List (PDU × Ta)):Prop:=∀ x∈l,Reads M x.2.EA (x.1.en.map v8)/\Reads M x.2.DA (x.1.da.map v8)
theorem pcs_app(a b:List (PDU × Ta)):pcs (a++b)=pcs a++pcs b:=List.flatMap_append
theorem pd_i3:(Tryz.prog.info? 65).map (fun i=>(i.zero,i.size,i.bytes))=some (some (.agg (pc {} none 0 0 none 0 0).toArray),14,88):=by kernel_rfl
theorem pd_z:(Tryz.prog.info? 65).bind (fun i=>i.zero.map (·.cells.toList))=some (pc {} none 0 0 none 0 0):=by kernel_rfl
theorem rc_z:(Tryz.prog.info? 56).bind (fun i=>i.zero.map (·.cells.toList))=some (rcl { f:=⟨false,false,0⟩,mo:=0 } none 0):=by kernel_rfl
def newR(f:Fm)(b:Bs):Rc:={ f:=f,mo:=2097152,b:=b }
theorem bd_rc(f:Fm)(b:Bs)(B:Option Addr)(c:Nat)(w:World):(Instr.build 56 #[(0,.agg (fl f).toArray),(1,.int .i64 2097152),(2,.slice B b.length c)]).run Tryz.prog w=.ok (.agg (rcl (newR f b) B c).toArray) w:=by kernel_rfl
def parseN:Nat->Rc->List PDU->List PDU × Bool
 | 0,_,l=>(l,false)
 | n+1,s,l=>if (nextE s).2.2≠0 then (l,decide ((nextE s).2.2=9)&&decide (s.b.length=0)) else parseN n (nextE s).1 (l++[(nextE s).2.1])
def parseE(f:Fm)(b:Bs):List PDU × Bool:=parseN 1000 (newR f b) []
theorem parseN_stop{n:Nat}{s s':Rc}{p:PDU}{e:Nat}{l:List PDU}(h:nextE s=(s',p,e))(he:e≠0):parseN (n+1) s l=(l,decide (e=9)&&decide (s.b.length=0)):=by
 show(if (nextE s).2.2≠0 then _ else _)=_
 rw[h,if_pos he]
theorem parseN_go{n:Nat}{s s':Rc}{p:PDU}{l:List PDU}(h:nextE s=(s',p,0)):parseN (n+1) s l=parseN n s' (l++[p]):=by
 show(if (nextE s).2.2≠0 then _ else _)=_
 rw[h,if_neg (by simp)]
theorem RdP.app{M:List At}{l:List (PDU × Ta)}(h:RdP M l)(N:List At):RdP (N++M) l:=fun x hx=>⟨((h x hx).1).app N,((h x hx).2).app N⟩
theorem rcf{s:Rc}{B:Option Addr}{c:Nat}(R:List Value)(h:R=rcl s B c):R.length=8/\∀ v∈R,v.oneCell'=true:=by subst h;exact⟨rfl,Sr.rcl_one _ _ _⟩
theorem parse_st{B:Option Addr}{b:Bs}(hs:St w0 X (.rd B (b.map v8)::L) w)(f:Fm){c:Nat}(hc:b.length<=c)(hl:b.length<=4194304){ps:List PDU}{ok:Bool}(hr:parseE f b=(ps,ok)) :
  Calls Tryz.prog 45 #[.slice B b.length c,fv f] w fun e w'=>∃ OB r oc l R,e=.returned (.tuple #[.slice OB l.length oc,.bool ok])/\Hid (l.map (·.1)=ps/\RdP (R++L) l)/\St w0 X (.own 14 r OB l.length oc (pcs l)::(R++L)) w':=by
 rw[Pd.fv_eq]
 obtain⟨F,hF⟩:∃ F,F=fl f:=⟨_,rfl⟩
 obtain⟨n,hn⟩:∃ n,n=b.length:=⟨_,rfl⟩
 obtain⟨RZ,hRZ⟩:∃ R,R=rcl { f:=⟨false,false,0⟩,mo:=0 } none 0:=⟨_,rfl⟩
 obtain⟨PZ,hPZ⟩:∃ P,P=pc {} none 0 0 none 0 0:=⟨_,rfl⟩
 obtain⟨RN,hRN⟩:∃ R,R=rcl (newR f b) B c:=⟨_,rfl⟩
 have FL:=Lib.hid (show F.length=3 by rw[hF];rfl)
 have RZL:=Lib.hid (show RZ.length=8 by rw[hRZ];rfl)
 have PZL:=Lib.hid (show PZ.length=14 by rw[hPZ];rfl)
 have RNL:=Lib.hid (show RN.length=8 by rw[hRN];rfl)
 have RNO:=Lib.hid (show ∀ v∈RN,v.oneCell'=true by rw[hRN];exact Sr.rcl_one _ _ _)
 have ZR:Hid ((Tryz.prog.info? 56).bind (fun i=>i.zero.map (·.cells.toList))=some RZ):=Lib.hid (by rw[hRZ];exact rc_z)
 have ZP:Hid ((Tryz.prog.info? 65).bind (fun i=>i.zero.map (·.cells.toList))=some PZ):=Lib.hid (by rw[hPZ];exact pd_z)
 have BR:Hid (∀ w:World,(Instr.build 56 #[(0,.agg F.toArray),(1,.int .i64 2097152),(2,.slice B n c)]).run Tryz.prog w=.ok (.agg RN.toArray) w):=Lib.hid (by rw[hF,hn,hRN];exact bd_rc f b B c)
 have HR:=Lib.hid (show parseN (1000-0) (newR f b) []=(ps,ok) from hr)
 have HRN:=Lib.hid hRN
 have HC:=Lib.hid (show(newR f b).b.length<=c/\(newR f b).nb+(newR f b).b.length<=4194304/\(newR f b).np<=0 from⟨hc,by show 0+b.length<=_;omega,Nat.le_refl _⟩)
 obtain⟨s0,hs0⟩:∃ s,s=newR f b:=⟨_,rfl⟩
 rw[<-hn,<-hF];rw[<-hs0] at HR HRN HC
 have HB0:=Lib.hid (show s0.b=b by rw[hs0];rfl)
 rw[<-HB0.out] at hs;clear hF hn hRZ hPZ hRN hr hs0 hc hl
 go_enter Tryz.func45,Tryz.ntmps45
 go_upto_region 2 with (first|((with_reducible refine Se.iL 3 ?_);(refine Se.toL rfl (Se.bx (o:=⟨some 3,_,_,_,_,_⟩) hs rfl rfl (l:=F) rfl ?_);clear hs;rintro w g3-hs))|((with_reducible refine Se.iL 12 ?_);(refine Se.Ldw hs rfl rfl (Reads.blk 0 rfl) (by rw[FL.out];kernel_rfl) ?_))|((with_reducible refine Se.iL 14 ?_);(refine Se.Bd rfl rfl (BR.out _) ?_))|((with_reducible refine Se.iL 6 ?_);(refine Se.Al hs rfl (ZR.out) ?_;clear hs;rintro w g6-hs))|((with_reducible refine Se.iN ?_);(refine Se.Sow 0 hs rfl rfl rfl rfl (RNO.out) (by rw[RNL.out];kernel_rfl) (by rw[RNL.out,RZL.out]) ?_;clear hs;intro w hs;try simp only[pS] at hs))|((first|with_reducible refine Se.ab hs ?_|with_reducible refine Se.abc hs ?_);clear hs;(first|(generalize w.heap.size=g3;intro w hs))))
 go_wp2_with fail
 rw[HRN.out] at hs
 have hs:=hs.nil_own 14 none
 go_loopg [7,8] (1000-0) (fun gh s7 s8 wr=>∃ (i:Nat) (s:Rc) (l:List (PDU × Ta)) (r:Option Nat) (OB:Option Addr) (oc:Nat) (B':Option Addr) (c':Nat) (R:List At),gh=1000-i/\i<=1000/\s7=.slice OB l.length oc/\s8=.int .i64 (i:Nat)/\Hid (parseN (1000-i) s (l.map (·.1))=(ps,ok)/\RdP (R++L) l/\s.b.length<=c'/\s.nb+s.b.length<=4194304/\s.np<=i/\l.length=i)/\St w0 X (.own 14 r OB l.length oc (pcs l)::.blk g6 56 (rcl s B' c')::.blk g3 54 F::.rd B' (s.b.map v8)::(R++L)) wr)
 case atStart=>exact⟨0,s0,[],none,none,0,B,c,[],rfl,by omega,rfl,rfl,Lib.hid ⟨HR.out,fun x hx=>absurd hx List.not_mem_nil,HC.out.1,HC.out.2.1,HC.out.2.2,rfl⟩,hs⟩
 case round =>
  clear hs HR HC HRN HB0 RNL RNO BR
  rename World=>w
  obtain⟨i,s,l,r,OB,oc,B',c',R,rfl,hi,rfl,rfl,HI,hs⟩:=hrel
  by_cases hlt:i<1000
  ·have hlt':decide ((i:Int)<1000)=true:=by simp;omega
   obtain⟨⟨s',p,e⟩,hne⟩:∃ x,nextE s=x:=⟨_,rfl⟩
   have HNE:=Lib.hid hne
   obtain⟨RL,hRL⟩:∃ R,R=rcl s B' c':=⟨_,rfl⟩
   have RLF:=Lib.hid (rcf RL hRL)
   have R4:=Lib.hid (show RL[4]? = some (.slice B' s.b.length c') by rw[hRL];rfl)
   have CNx:Hid (∀ w,St w0 X (.own 14 r OB l.length oc (pcs l)::.blk g6 56 RL::.blk g3 54 F::.rd B' (s.b.map v8)::(R++L)) w->Calls Tryz.prog 84 #[.agg RL.toArray] w fun e' w'=>∃ RL' B'' c'' EA ec DA dc PC,e'=.returned (.tuple #[.agg RL'.toArray,.agg PC.toArray,iv e])/\Hid (RL'=rcl s' B'' c'')/\Hid (s'.b.length<=c'')/\Hid (PC=pc p.h EA p.en.length ec DA p.da.length dc)/\Hid (Reads [.rd B' (s.b.map v8)] EA (p.en.map v8))/\Hid (Reads [.rd B' (s.b.map v8)] DA (p.da.map v8))/\St w0 X (.own 14 r OB l.length oc (pcs l)::.blk g6 56 RL::.blk g3 54 F::.rd B'' (s'.b.map v8)::.rd B' (s.b.map v8)::(R++L)) w'):=Lib.hid (fun w hs=>by
    have hi:=HI.out
    rw[hRL];rw[hRL] at hs;refine(Sr.rnext_st (St.swapA [_,_,_] [_] hs) hi.2.2.1 (by omega) (by omega) (by omega) hne).mono ?_;rintro e' w' ⟨RL',B'',c'',EA,ec,DA,dc,PC,h1,h2,h3,h4,h5,h6,h7⟩;exact⟨RL',B'',c'',EA,ec,DA,dc,PC,h1,h2,h3,h4,h5,h6,St.swapA [_,_] [_,_,_] h7⟩)
   rw[<-hRL] at hs;clear hRL hne
   go_upto_region 7 with (first|((with_reducible refine Se.iL 20 ?_);(refine Se.Ldw hs rfl rfl (Reads.blk 1 rfl) (by rw[RLF.out.1];kernel_rfl) ?_))|((with_reducible refine Se.iL 9 ?_);(refine Se.Al hs rfl (ZR.out) ?_;clear hs;rintro w g9-hs))|((with_reducible refine Se.iL 10 ?_);(refine Se.Al hs rfl (ZP.out) ?_;clear hs;rintro w g10-hs))|((with_reducible refine Se.isL (o:=⟨none,Op.store 56 _ _,_,_,_,_⟩) ?_);(refine Se.Sow 1 hs rfl rfl rfl rfl (by exact(rcf _ HRL.out).2) (by rw[(rcf _ HRL.out).1];kernel_rfl) (by rw[(rcf _ HRL.out).1,RZL.out]) ?_;clear hs;intro w hs;try simp only[pS] at hs))|((with_reducible refine Se.isL (o:=⟨none,Op.store 65 _ _,_,_,_,_⟩) ?_);(refine Se.Sow 0 hs rfl rfl rfl rfl (by exact(Sr.pcl _ HPC.out).2) (by rw[(Sr.pcl _ HPC.out).1];kernel_rfl) (by rw[(Sr.pcl _ HPC.out).1,PZL.out]) ?_;clear hs;intro w hs;try simp only[pS] at hs))|(go_at_call 84;refine Calls.mono (CNx.out _ hs) ?_;clear hs;rintro e w ⟨RL',B2,c2,EA,ec,DA,dc,PC,rfl,HRL,HC2,HPC,RE,RD,hs⟩))
   clear CNx
   have RLF2:=Lib.hid (rcf _ HRL.out)
   have PCF:=Lib.hid (Sr.pcl _ HPC.out)
   by_cases he:e=0
   ·have he1:((e:Int) != 0)=false:=by simpa using he
    have HNK:=Lib.hid (next_ok (by rw[HNE.out,he]))
    have HGO:=Lib.hid (show parseN (1000-(i+1)) s' (l.map (·.1)++[p])=(ps,ok) from by
     have h:=HI.out.1
     rw[show 1000-i=(1000-(i+1))+1 by omega,parseN_go (by rw[HNE.out,he])] at h;exact h)
    have hlb:l.length<=1000:=by have:=HI.out.2.2.2.2.2;omega
    clear he HNE
    go_upto_region 9 with (fail)
    refine Ch.region' 7 (fun wx=>Blk wx g9 RL' 56/\Blk wx g10 PC 65) (fun|3=>true|4=>true|5=>true|_=>false) (by kernel_rfl) (by decide +kernel) (⟨hs.drew.hold (.blk g9 56 RL') (by simp),hs.drew.hold (.blk g10 65 PC) (by simp)⟩) ?_;replace hs:=hs.drew;generalize w.drew=w at hs ⊢;change Ch.CW _ _ _ _ _ [0,1,2,3,4,5,6] _ _
    iterate 3 ((first|refine Ch.pA ?_|refine Ch.pE (hv:=fun wx hS=>Se.xR (hr:=(Li.Rd.of_blk hS.1)) (hi:=(by rw[RLF2.out.1];kernel_rfl))) (h:=?_)|refine Ch.pE (hv:=fun wx hS=>Se.xR (hr:=(Li.Rd.of_blk hS.2)) (hi:=(by rw[PCF.out.1];kernel_rfl))) (h:=?_));(try simp only[pU]))
    refine Ch.nA (h:=Se.bs1 hs rfl Tryz.underlying68 pd_i3 (by decide) (by decide) rfl PCF.out.1 ?_);clear hs;rintro w g26-hs;refine⟨⟨hs.hold (.blk g9 56 RL') (by simp),hs.hold (.blk g10 65 PC) (by simp)⟩,?_⟩;(try simp only[pU]);refine Ch.nA (h:=Se.ap 3 hs rfl rfl rfl rfl (Reads.blk 0 rfl) Tryz.underlying68 pd_i3 rfl (by decide) PCF.out.2 (by rw[PCF.out.1]) (by omega) (by omega) ?_);clear hs;rintro w r' OB' oc' hs;simp only[pS] at hs;refine⟨⟨hs.hold (.blk g9 56 RL') (by simp),hs.hold (.blk g10 65 PC) (by simp)⟩,?_⟩;(try simp only[pU]);refine Ch.nA (h:=Se.sow 4 (vs:=RL') hs rfl rfl rfl rfl RLF2.out.2 (by rw[RLF2.out.1];kernel_rfl) (by rw[RLF2.out.1,RLF.out.1]) ?_);clear hs;intro w hs;simp only[pS] at hs;refine⟨⟨hs.hold (.blk g9 56 RL') (by simp),hs.hold (.blk g10 65 PC) (by simp)⟩,?_⟩;(try simp only[pU])
    iterate 1 (refine Ch.pA ?_;(try simp only[pU]))
    refine Ch.done ?_
    try simp only[List.drop_succ_cons,List.drop_zero]
    have hw:=IntWalk.i64_in ((i:Int)+1) (by omega)
    go_wp2_with fail
    go_roundg (1000-(i+1))
    case measure=>omega
    case rel =>
     have hi:=HI.out
     have hk:=HNK.out
     refine⟨i+1,s',l++[(p,⟨EA,ec,DA,dc⟩)],r',OB',oc',B2,c2,.rd B' (s.b.map v8)::R,rfl,by omega,by rw[List.length_append];rfl,by go_num,Lib.hid ⟨?_,?_,HC2.out,by have:=hk.nb;omega,by have:=hk.np;omega,by rw[List.length_append];show l.length+1=_;omega⟩,?_⟩
     ·rw[List.map_append];exact HGO.out
     ·intro x hx
      rcases List.mem_append.1 hx with hx|hx
      ·exact(hi.2.1.app [_]) x hx
      ·obtain rfl:=List.mem_singleton.1 hx
       exact⟨RE.out.mono (fun a ha=>by simp only[List.mem_singleton] at ha;subst ha;exact List.mem_cons_self),RD.out.mono (fun a ha=>by simp only[List.mem_singleton] at ha;subst ha;exact List.mem_cons_self)⟩
     ·have h1:=hs.drop.drop.drop
      rw[HRL.out,HPC.out] at h1;rw[List.length_append,pcs_app];exact h1
   ·have he1:((e:Int) != 0)=true:=by simpa using he
    have HST:=Lib.hid (show l.map (·.1)=ps/\(decide (e=9)&&decide (s.b.length=0))=ok from by
     have h:=HI.out.1
     rw[show 1000-i=(1000-(i+1))+1 by omega,parseN_stop HNE.out he] at h
     cases h;exact⟨rfl,rfl⟩)
    clear he
    go_upto_region 8 with (fail)
    by_cases h9:e=9
    ·have e9:((e:Int)==9)=true:=by simp;omega
     obtain⟨zb,hzb⟩:∃ q,((s.b.length:Int)==0)=q:=⟨_,rfl⟩
     have HO:=Lib.hid (show l.map (·.1)=ps/\zb=ok from⟨HST.out.1,by rw[<-HST.out.2,<-hzb,decide_eq_true h9,Bool.true_and];simp only[BEq.beq];exact decide_eq_decide.2 (by omega)⟩)
     clear h9;refine Ch.region' 11 (fun wx=>Blk wx g6 RL 56) (fun |_=>false) (by kernel_rfl) (by decide +kernel) (hs.drew.hold (.blk g6 56 RL) (by simp)) ?_;replace hs:=hs.drew;generalize w.drew=w at hs ⊢;change Ch.CW _ _ _ _ _ [0,1,2,3,4,5,6,7,8,9,10] _ _
     iterate 11 ((first|refine Ch.pA ?_|refine Ch.pE (hv:=fun wx hS=>Se.xL (hc:=((hS.cell _).trans R4.out))) (h:=?_));(try simp only[pU]))
     refine Ch.done ?_
     try simp only[List.drop_succ_cons,List.drop_zero]
     go_wp2_with fail
     go_ret2;refine⟨OB,r,oc,l,.rd B2 (s'.b.map v8)::.rd B' (s.b.map v8)::R,by rw[<-HO.out.2];rfl,Lib.hid ⟨HO.out.1,HI.out.2.1.app [_,_]⟩,?_⟩;exact hs.drop.drop.sub (List.Sublist.cons_cons _ (List.Sublist.cons _ (List.Sublist.cons _ (List.Sublist.refl _))))
    ·have e9:((e:Int)==9)=false:=by simp;omega
     have HO:=Lib.hid (show l.map (·.1)=ps/\ok=false from⟨HST.out.1,by rw[<-HST.out.2,decide_eq_false h9];rfl⟩)
     clear h9;refine Ch.region' 11 (fun wx=>Blk wx g6 RL 56) (fun |_=>false) (by kernel_rfl) (by decide +kernel) (hs.drew.hold (.blk g6 56 RL) (by simp)) ?_;replace hs:=hs.drew;generalize w.drew=w at hs ⊢;change Ch.CW _ _ _ _ _ [0,1,2,3,4,5,6,7,8,9,10] _ _
     iterate 4 (refine Ch.pA ?_;(try simp only[pU]))
     iterate 4 (refine Ch.sK ?_;(try simp only[pU]))
     iterate 3 (refine Ch.pA ?_;(try simp only[pU]))
     refine Ch.done ?_
     try simp only[List.drop_succ_cons,List.drop_zero]
     go_wp2_with fail
     go_ret2;refine⟨OB,r,oc,l,.rd B2 (s'.b.map v8)::.rd B' (s.b.map v8)::R,by rw[HO.out.2];rfl,Lib.hid ⟨HO.out.1,HI.out.2.1.app [_,_]⟩,?_⟩;exact hs.drop.drop.sub (List.Sublist.cons_cons _ (List.Sublist.cons _ (List.Sublist.cons _ (List.Sublist.refl _))))
  ·obtain rfl:i=1000:=by omega
   have hlt':decide (((1000:Nat):Int)<1000)=false:=by decide
   have HO:=Lib.hid (show l.map (·.1)=ps/\ok=false from by have h:=HI.out.1;cases h;exact⟨rfl,rfl⟩)
   go_wp2_with fail
   go_ret2;refine⟨OB,r,oc,l,.rd B' (s.b.map v8)::R,by rw[HO.out.2];rfl,Lib.hid ⟨HO.out.1,HI.out.2.1.app [_]⟩,?_⟩;exact hs.sub (List.Sublist.cons_cons _ (List.Sublist.cons _ (List.Sublist.cons _ (List.Sublist.refl _))))
end Sn
end Go.Proofs.YtjnllcnknjlmmaaGreat
namespace Go.Proofs.YtjnllcnknjlmmaaGreat
open Go Go.RowKit
namespace Sn
open Pd (Fm PDU encE pc iv fl fv enc framed valid)
open Se (St At Reads Cell)
open Li (v8)
open Bv (n8)
variable {w0 w:World} {X:List Nat} {L:List At}
attribute [local irreducible] Calls
def liveE(c:Cf)(al dg:BitVec 8):Ss:={ (feedE (newS c) (enc (hello al dg) f0)).1 with out:=[] }
def lfE(c:Cf)(al dg:BitVec 8):Fm:=fmE (digE c dg) al.toNat
theorem lf_bits(hd dd:Bool)(d:BitVec 8):decide (((if hd then d&&&1#8 else 0#8)|||(if dd then d&&&2#8 else 0#8))&&&1#8≠0#8)=(hd&&(bits BinOp.and IntKind.u8 (n8 d) 1 != 0))/\decide (((if hd then d&&&1#8 else 0#8)|||(if dd then d&&&2#8 else 0#8))&&&2#8≠0#8)=(dd&&(bits BinOp.and IntKind.u8 (n8 d) 2 != 0)):=by
 have h:∀ (d:_root_.Fin 256) (hd dd:Bool),decide (((if hd then BitVec.ofNat 8 d&&&1#8 else 0#8)|||(if dd then BitVec.ofNat 8 d&&&2#8 else 0#8))&&&1#8≠0#8)=(hd&&(bits BinOp.and IntKind.u8 (n8 (BitVec.ofNat 8 d)) 1 != 0))/\decide (((if hd then BitVec.ofNat 8 d&&&1#8 else 0#8)|||(if dd then BitVec.ofNat 8 d&&&2#8 else 0#8))&&&2#8≠0#8)=(dd&&(bits BinOp.and IntKind.u8 (n8 (BitVec.ofNat 8 d)) 2 != 0)):=by decide +kernel
 have h2:=h ⟨d.toNat,d.isLt⟩ hd dd
 have e:BitVec.ofNat 8 d.toNat=d:=by simp
 simp only[e] at h2;exact h2
theorem lf_fl(c:Cf)(al dg:BitVec 8):fl (lfE c al dg)=[.bool (c.hd&&(bits BinOp.and IntKind.u8 (n8 dg) 1 != 0)),.bool (c.dd&&(bits BinOp.and IntKind.u8 (n8 dg) 2 != 0)),.int .i64 (n8 al)]:=by
 rw[<-(lf_bits c.hd c.dd dg).1,<-(lf_bits c.hd c.dd dg).2]
 rfl
theorem hello_valid{al dg:BitVec 8}(h1:al.toNat<=31)(h2:dg.toNat<=3):valid (hello al dg)=true:=by
 have h:∀ (a:_root_.Fin 32) (d:_root_.Fin 4),valid (hello (BitVec.ofNat 8 a) (BitVec.ofNat 8 d))=true:=by decide +kernel
 have h3:=h ⟨al.toNat,by omega⟩ ⟨dg.toNat,by omega⟩
 simpa using h3
theorem enc_le{p:PDU}{f:Fm}(h1:framed f=true)(h2:valid p=true):(enc p f).length<=2097152:=by
 have h:=encE_le p f
 unfold encE at h;rwa [if_pos h1,if_pos h2] at h
theorem bd_hello(al dg:BitVec 8)(w:World):(Instr.build 65 #[(8,.int .u8 (n8 al)),(9,.int .u8 (n8 dg))]).run Tryz.prog w=.ok (.agg (pc (hello al dg).h none 0 0 none 0 0).toArray) w:=by kernel_rfl
theorem live_yes(hs:St w0 X L w)(r:Rw)(al dg:BitVec 8)(h:vB r=true)(h1:al.toNat<=31)(h2:dg.toNat<=3):Calls Tryz.prog 43 #[.agg (rwl r).toArray,.int .u8 (n8 al),.int .u8 (n8 dg)] w fun e w'=>∃ g f,e=.returned (.tuple #[.pointer (some ⟨g,0,none⟩),fv (lfE (cfR r) al dg)])/\OkP (liveE (cfR r) al dg) f.k/\St w0 X (FF g (liveE (cfR r) al dg) f L) w':=by
 have hv:=hello_valid h1 h2
 obtain⟨R,hR⟩:∃ R,R=rwl r:=⟨_,rfl⟩
 obtain⟨c,hc⟩:∃ c,c=cfR r:=⟨_,rfl⟩
 obtain⟨EN,hEN⟩:∃ E,E=enc (hello al dg) f0:=⟨_,rfl⟩
 obtain⟨n,hn⟩:∃ n,n=EN.length:=⟨_,rfl⟩
 obtain⟨⟨s1,lq,e1⟩,hf⟩:∃ x,feedE (newS c) EN=x:=⟨_,rfl⟩
 have HLV:=Lib.hid (show liveE c al dg={ s1 with out:=[] } by unfold liveE;rw[<-hEN,hf])
 have hnl:n<=2097152:=by rw[hn,hEN];exact enc_le rfl hv
 have HOKC:=Lib.hid (vB_ok h)
 have RL:=Lib.hid (show R.length=7 by rw[hR];rfl)
 have R0:=Lib.hid (show R[0]? = some (.bool c.hd)/\R[1]? = some (.bool c.dd) by rw[hR,hc];exact⟨rfl,rfl⟩)
 have CV:Hid (∀ (L:List At) w,St w0 X L w->Calls Tryz.prog 25 #[.agg R.toArray] w fun e w'=>e=.returned (.bool true)/\St w0 X L w'):=Lib.hid (fun L w hs=>by rw[hR,<-h];exact rvalid_st hs r)
 have CN:Hid (∀ (a b:At) w,St w0 X (a::b::L) w->Calls Tryz.prog 36 #[.agg R.toArray] w fun e w'=>∃ g f,e=.returned (.tuple #[.pointer (some ⟨g,0,none⟩),iv 0])/\Hid (OkP (newS c) f.k)/\St w0 X (a::b::FF g (newS c) f L) w'):=Lib.hid (fun a b w hs=>by
  rw[hR,hc];refine(snew_yes hs r h).mono ?_;rintro e w' ⟨g,f,h3,h4,h5⟩;exact⟨g,f,h3,Lib.hid h4,h5.perm (FF_front [a,b]).symm⟩)
 have CE:Hid (∀ (L:List At) w,St w0 X L w->Calls Tryz.prog 28 #[.agg (pc (hello al dg).h none 0 0 none 0 0).toArray,fv f0] w fun e' w'=>∃ r B c,e'=.returned (.slice B n c)/\St w0 X (.own 1 r B n c (EN.map v8)::L) w'):=Lib.hid (fun L w hs=>by
  rw[hEN];exact Pd.rEncode_st hs (hello al dg) f0 Reads.nil Reads.nil rfl rfl rfl hv (by rw[hn,hEN]))
 have CF:Hid (∀ (a b:At) r' B c' g f w,Hid (OkP (newS c) f.k)->St w0 X (.own 1 r' B n c' (EN.map v8)::a::b::FF g (newS c) f L) w->Calls Tryz.prog 37 #[.pointer (some ⟨g,0,none⟩),.slice B n c'] w fun e' w'=>∃ RB rc f',e'=.returned (.tuple #[.slice RB lq.length rc,iv e1])/\Hid (OkP s1 f'.k)/\St w0 X (a::b::FF g s1 f' L) w'):=Lib.hid (fun a b r' B c' g f w ok hs=>by
  have hck:=HOKC.out.2
  rw[<-hc] at hck
  have h0:(newS c).out.length=0/\(newS c).r.b.length=0/\(newS c).r.nb=0/\(newS c).r.np=0:=⟨rfl,rfl,rfl,rfl⟩
  refine(feed_m [.own 1 r' B n c' (EN.map v8),a,b] hs ok.out (inv_new hck) EN hn ((Reads.own 0 rfl).mono (fun _ h=>List.mem_append.2 (.inl h))) (by omega) (by omega) (by omega) (by omega) hf).mono ?_;rintro e' w' ⟨RB,rc,rq,rl,f',h3,h4,h5,h6⟩;exact⟨RB,rc,f',h3,Lib.hid h5,h6.sub (List.Sublist.cons _ (List.sublist_append_of_sublist_right (List.Sublist.cons _ (List.Sublist.refl _))))⟩)
 have CO:Hid (∀ (a b:At) g f w,Hid (OkP s1 f.k)->St w0 X (a::b::FF g s1 f L) w->Calls Tryz.prog 39 #[.pointer (some ⟨g,0,none⟩)] w fun e' w'=>∃ B c' f',e'=.returned (.slice B s1.out.length c')/\Hid (OkP { s1 with out:=[] } f'.k)/\St w0 X (a::b::FF g { s1 with out:=[] } f' L) w'):=Lib.hid (fun a b g f w ok hs=>by
  refine(output_m [a,b] hs ok.out).mono ?_;rintro e' w' ⟨B,r',c',f',h3,h4,h5⟩;exact⟨B,c',f',h3,Lib.hid h4,h5.sub (List.Sublist.cons _ (List.Sublist.refl _))⟩)
 rw[<-hR,<-hc,HLV.out]
 obtain⟨s2,hs2⟩:∃ q,q={ s1 with out:=[] }:=⟨_,rfl⟩
 rw[<-hs2] at CO ⊢
 obtain⟨LF,hLF⟩:∃ q,q=fl (lfE c al dg):=⟨_,rfl⟩
 have hfv:fv (lfE c al dg)=.agg LF.toArray:=by rw[hLF];rfl
 rw[hfv]
 have t1:decide ((31:Int)<n8 al)=false:=decide_eq_false (by show ¬ (31:Int)<(al.toNat:Int);omega)
 have t2:decide ((3:Int)<n8 dg)=false:=decide_eq_false (by show ¬ (3:Int)<(dg.toNat:Int);omega)
 clear h h1 h2 hR hc hEN hn hf HLV hnl HOKC hs2 hfv hv
 go_enter Tryz.func43,Tryz.ntmps43
 go_upto_region 1 with (first|((with_reducible refine Se.iL 3 ?_);(refine Se.toL rfl (Se.bx (o:=⟨some 3,_,_,_,_,_⟩) hs rfl rfl (l:=R) rfl ?_);clear hs;rintro w g3-hs))|((with_reducible refine Se.iL 7 ?_);(refine Se.Al hs rfl (fm_z) ?_;clear hs;rintro w g7-hs))|((first|with_reducible refine Se.ab hs ?_|with_reducible refine Se.abc hs ?_);clear hs;(first|(generalize w.heap.size=g3;intro w hs))))
 go_upto_region 4 with (first|((with_reducible refine Se.iL 10 ?_);(refine Se.Ldw hs rfl rfl (Reads.blk 1 rfl) (by rw[RL.out];kernel_rfl) ?_))|((with_reducible refine Se.iL 23 ?_);(refine Se.Ldw hs rfl rfl (Reads.blk 1 rfl) (by rw[RL.out];kernel_rfl) ?_))|(go_at_call 25;refine Calls.mono (CV.out _ _ hs) ?_;clear hs;rintro e w ⟨rfl,hs⟩)|(go_at_call 36;refine Calls.mono (CN.out _ _ _ hs) ?_;clear hs;rintro e w ⟨g,f,rfl,hok,hs⟩))
 clear CV CN
 go_upto_region 7 with (first|((with_reducible refine Se.iL 37 ?_);(refine Se.Bd rfl rfl (bd_hello _ _ _) ?_))|((with_reducible refine Se.iL 38 ?_);(refine Se.Bd rfl rfl (bd_fm0 _) ?_))|(go_at_call 28;refine Calls.mono (CE.out _ _ hs) ?_;clear hs;rintro e w ⟨r',B,c',rfl,hs⟩)|(go_at_call 37;refine Calls.mono (CF.out _ _ _ _ _ _ _ _ hok hs) ?_;clear hs;rintro e w ⟨RB,rc,f',rfl,hok',hs⟩))
 clear CF CE
 go_upto_region 8 with (first|(go_at_call 39;refine Calls.mono (CO.out _ _ _ _ _ hok' hs) ?_;clear hs;rintro e w ⟨B2,c2,f2,rfl,hok2,hs⟩))
 clear CO
 obtain⟨bh,hbh⟩:∃ q,q=c.hd:=⟨_,rfl⟩
 obtain⟨bd,hbd⟩:∃ q,q=c.dd:=⟨_,rfl⟩
 rw[<-hbh,<-hbd] at R0
 have HB:=Lib.hid (And.intro hbh hbd)
 rw[lf_fl,<-hbh,<-hbd] at hLF
 have HLF:=Lib.hid hLF
 clear hbh hbd hLF
 have R0a:=Lib.hid R0.out.1
 have R0b:=Lib.hid R0.out.2
 have hwa:wrap64 (n8 al)=n8 al:=IntWalk.wrap64_in _ (by have:=al.isLt;unfold n8;omega)
 cases bh
 ·cases bd
  ·go_wp2_with (first|((with_reducible refine Se.iL 45 ?_);(refine Se.Ld hs rfl rfl (Cell.blk 1 rfl R0a.out) ?_))|((with_reducible refine Se.iL 52 ?_);(refine Se.Ld hs rfl rfl (Cell.blk 1 rfl R0b.out) ?_))|((with_reducible refine Se.iN ?_);(refine Se.Sow 0 hs rfl rfl rfl rfl (by simp[Value.oneCell']) (by kernel_rfl) (rfl) ?_;clear hs;intro w hs;try simp only[pS] at hs)))
   refine Se.ret hs [.pointer (some ⟨g,0,none⟩),.agg #[.bool false,.bool false,.int .i64 (n8 al)]] rfl ⟨rfl,Se.resRow rfl (Reads.blk 0 rfl) (by kernel_rfl) (by kernel_rfl),trivial⟩ (by simp) rfl ?_;exact⟨g,f2,by rw[HLF.out];rfl,hok2.out,hs.drop.drop⟩
  ·go_wp2_with (first|((with_reducible refine Se.iL 45 ?_);(refine Se.Ld hs rfl rfl (Cell.blk 1 rfl R0a.out) ?_))|((with_reducible refine Se.iL 52 ?_);(refine Se.Ld hs rfl rfl (Cell.blk 1 rfl R0b.out) ?_))|((with_reducible refine Se.iN ?_);(refine Se.Sow 0 hs rfl rfl rfl rfl (by simp[Value.oneCell']) (by kernel_rfl) (rfl) ?_;clear hs;intro w hs;try simp only[pS] at hs)))
   refine Se.ret hs [.pointer (some ⟨g,0,none⟩),.agg #[.bool false,.bool (bits BinOp.and IntKind.u8 (n8 dg) 2 != 0),.int .i64 (n8 al)]] rfl ⟨rfl,Se.resRow rfl (Reads.blk 0 rfl) (by kernel_rfl) (by kernel_rfl),trivial⟩ (by simp) rfl ?_;exact⟨g,f2,by rw[HLF.out];rfl,hok2.out,hs.drop.drop⟩
 ·cases bd
  ·go_wp2_with (first|((with_reducible refine Se.iL 45 ?_);(refine Se.Ld hs rfl rfl (Cell.blk 1 rfl R0a.out) ?_))|((with_reducible refine Se.iL 52 ?_);(refine Se.Ld hs rfl rfl (Cell.blk 1 rfl R0b.out) ?_))|((with_reducible refine Se.iN ?_);(refine Se.Sow 0 hs rfl rfl rfl rfl (by simp[Value.oneCell']) (by kernel_rfl) (rfl) ?_;clear hs;intro w hs;try simp only[pS] at hs)))
   refine Se.ret hs [.pointer (some ⟨g,0,none⟩),.agg #[.bool (bits BinOp.and IntKind.u8 (n8 dg) 1 != 0),.bool false,.int .i64 (n8 al)]] rfl ⟨rfl,Se.resRow rfl (Reads.blk 0 rfl) (by kernel_rfl) (by kernel_rfl),trivial⟩ (by simp) rfl ?_;exact⟨g,f2,by rw[HLF.out];rfl,hok2.out,hs.drop.drop⟩
  ·go_wp2_with (first|((with_reducible refine Se.iL 45 ?_);(refine Se.Ld hs rfl rfl (Cell.blk 1 rfl R0a.out) ?_))|((with_reducible refine Se.iL 52 ?_);(refine Se.Ld hs rfl rfl (Cell.blk 1 rfl R0b.out) ?_))|((with_reducible refine Se.iN ?_);(refine Se.Sow 0 hs rfl rfl rfl rfl (by simp[Value.oneCell']) (by kernel_rfl) (rfl) ?_;clear hs;intro w hs;try simp only[pS] at hs)))
   refine Se.ret hs [.pointer (some ⟨g,0,none⟩),.agg #[.bool (bits BinOp.and IntKind.u8 (n8 dg) 1 != 0),.bool (bits BinOp.and IntKind.u8 (n8 dg) 2 != 0),.int .i64 (n8 al)]] rfl ⟨rfl,Se.resRow rfl (Reads.blk 0 rfl) (by kernel_rfl) (by kernel_rfl),trivial⟩ (by simp) rfl ?_;exact⟨g,f2,by rw[HLF.out];rfl,hok2.out,hs.drop.drop⟩
theorem bd_fmA(w:World):(Instr.build 54 #[]).run Tryz.prog w=.ok (.agg #[.bool false,.bool false,.int .i64 0]) w:=by kernel_rfl
theorem live_no(hs:St w0 X L w)(r:Rw)(al dg:BitVec 8)(h:vB r=false\/31<al.toNat\/3<dg.toNat):Calls Tryz.prog 43 #[.agg (rwl r).toArray,.int .u8 (n8 al),.int .u8 (n8 dg)] w fun e w'=>e=.returned (.tuple #[.pointer none,fv f0])/\St w0 X L w':=by
 obtain⟨R,hR⟩:∃ R,R=rwl r:=⟨_,rfl⟩
 obtain⟨b,hb⟩:∃ b,vB r=b:=⟨_,rfl⟩
 have RL:=Lib.hid (show R.length=7 by rw[hR];rfl)
 have CV:Hid (∀ (L:List At) w,St w0 X L w->Calls Tryz.prog 25 #[.agg R.toArray] w fun e w'=>e=.returned (.bool b)/\St w0 X L w'):=Lib.hid (fun L w hs=>by rw[hR,<-hb];exact rvalid_st hs r)
 rw[hb] at h;rw[<-hR,show fv f0=.agg #[.bool false,.bool false,.int .i64 0] from rfl];clear hb hR
 by_cases h0:b=false
 ·subst h0
  clear h
  go_enter Tryz.func43,Tryz.ntmps43
  go_wp2_with (first|((with_reducible refine Se.iL 3 ?_);(refine Se.toL rfl (Se.bx (o:=⟨some 3,_,_,_,_,_⟩) hs rfl rfl (l:=R) rfl ?_);clear hs;rintro w g3-hs))|((with_reducible refine Se.iL 7 ?_);(refine Se.Al hs rfl (fm_z) ?_;clear hs;rintro w g7-hs))|((with_reducible refine Se.iL 10 ?_);(refine Se.Ldw hs rfl rfl (Reads.blk 1 rfl) (by rw[RL.out];kernel_rfl) ?_))|((with_reducible refine Se.iL 21 ?_);(refine Se.Bd rfl rfl (bd_fmA _) ?_))|((with_reducible refine Se.iN ?_);(refine Se.Sow 0 hs rfl rfl rfl rfl (by simp[Value.oneCell']) (by kernel_rfl) (rfl) ?_;clear hs;intro w hs;try simp only[pS] at hs))|((first|with_reducible refine Se.ab hs ?_|with_reducible refine Se.abc hs ?_);clear hs;(first|(generalize w.heap.size=g3;intro w hs)))|(go_at_call 25;refine Calls.mono (CV.out _ _ hs) ?_;clear hs;rintro e w ⟨rfl,hs⟩))
  refine Se.ret hs [.pointer none,.agg #[.bool false,.bool false,.int .i64 0]] rfl ⟨rfl,Se.resRow rfl (Reads.blk 0 rfl) (by kernel_rfl) (by kernel_rfl),trivial⟩ (by simp) rfl ?_;exact⟨rfl,hs.drop.drop⟩
 obtain rfl:b=true:=by simpa using h0
 clear h0
 by_cases h1:31<al.toNat
 ·have t1:decide ((31:Int)<n8 al)=true:=decide_eq_true (by show(31:Int)<(al.toNat:Int);omega)
  clear h h1
  go_enter Tryz.func43,Tryz.ntmps43
  go_wp2_with (first|((with_reducible refine Se.iL 3 ?_);(refine Se.toL rfl (Se.bx (o:=⟨some 3,_,_,_,_,_⟩) hs rfl rfl (l:=R) rfl ?_);clear hs;rintro w g3-hs))|((with_reducible refine Se.iL 7 ?_);(refine Se.Al hs rfl (fm_z) ?_;clear hs;rintro w g7-hs))|((with_reducible refine Se.iL 10 ?_);(refine Se.Ldw hs rfl rfl (Reads.blk 1 rfl) (by rw[RL.out];kernel_rfl) ?_))|((with_reducible refine Se.iL 21 ?_);(refine Se.Bd rfl rfl (bd_fmA _) ?_))|((with_reducible refine Se.iN ?_);(refine Se.Sow 0 hs rfl rfl rfl rfl (by simp[Value.oneCell']) (by kernel_rfl) (rfl) ?_;clear hs;intro w hs;try simp only[pS] at hs))|((first|with_reducible refine Se.ab hs ?_|with_reducible refine Se.abc hs ?_);clear hs;(first|(generalize w.heap.size=g3;intro w hs)))|(go_at_call 25;refine Calls.mono (CV.out _ _ hs) ?_;clear hs;rintro e w ⟨rfl,hs⟩))
  refine Se.ret hs [.pointer none,.agg #[.bool false,.bool false,.int .i64 0]] rfl ⟨rfl,Se.resRow rfl (Reads.blk 0 rfl) (by kernel_rfl) (by kernel_rfl),trivial⟩ (by simp) rfl ?_;exact⟨rfl,hs.drop.drop⟩
 ·have t1:decide ((31:Int)<n8 al)=false:=decide_eq_false (by show ¬ (31:Int)<(al.toNat:Int);omega)
  have h2:3<dg.toNat:=by
   rcases h with h|h|h
   ·cases h
   ·exact absurd h h1
   ·exact h
  have t2:decide ((3:Int)<n8 dg)=true:=decide_eq_true (by show(3:Int)<(dg.toNat:Int);omega)
  clear h h1 h2
  go_enter Tryz.func43,Tryz.ntmps43
  go_wp2_with (first|((with_reducible refine Se.iL 3 ?_);(refine Se.toL rfl (Se.bx (o:=⟨some 3,_,_,_,_,_⟩) hs rfl rfl (l:=R) rfl ?_);clear hs;rintro w g3-hs))|((with_reducible refine Se.iL 7 ?_);(refine Se.Al hs rfl (fm_z) ?_;clear hs;rintro w g7-hs))|((with_reducible refine Se.iL 10 ?_);(refine Se.Ldw hs rfl rfl (Reads.blk 1 rfl) (by rw[RL.out];kernel_rfl) ?_))|((with_reducible refine Se.iL 21 ?_);(refine Se.Bd rfl rfl (bd_fmA _) ?_))|((with_reducible refine Se.iN ?_);(refine Se.Sow 0 hs rfl rfl rfl rfl (by simp[Value.oneCell']) (by kernel_rfl) (rfl) ?_;clear hs;intro w hs;try simp only[pS] at hs))|((first|with_reducible refine Se.ab hs ?_|with_reducible refine Se.abc hs ?_);clear hs;(first|(generalize w.heap.size=g3;intro w hs)))|(go_at_call 25;refine Calls.mono (CV.out _ _ hs) ?_;clear hs;rintro e w ⟨rfl,hs⟩))
  refine Se.ret hs [.pointer none,.agg #[.bool false,.bool false,.int .i64 0]] rfl ⟨rfl,Se.resRow rfl (Reads.blk 0 rfl) (by kernel_rfl) (by kernel_rfl),trivial⟩ (by simp) rfl ?_;exact⟨rfl,hs.drop.drop⟩
end Sn
end Go.Proofs.YtjnllcnknjlmmaaGreat
