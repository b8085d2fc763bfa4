/- Contracts and plain facts for the laws of layer 41. No condition. -/
import Derived.Test.YtjnllcnknjlmmaaGreatKa05
set_option linter.unusedSimpArgs false
set_option linter.unusedVariables false
set_option maxRecDepth 100000
set_option maxHeartbeats 4000000
namespace Go.Proofs.YtjnllcnknjlmmaaGreat
open Go Go.RowKit
namespace Pd
open Se (St At Reads Cell)
open Bv (n8 n16 n32)
variable {w0 w:World} {X:List Nat} {L:List At}
attribute [local irreducible] Calls
def sp(k:Nat)(h:Hd):Hd :=
 match k with
 | 0|1=>{ h with k:=0#8,al:=0#8,dg:=0#8,mx:=0#32 }
 | 2|3=>{ h with k:=0#8,st:=0#16,nf:=0#32 }
 | 6=>{ h with k:=0#8,la:=false,id:=0#16,tg:=0#16,of:=0#32 }
 | 7=>{ h with k:=0#8,la:=false,su:=h.su && !h.la,id:=0#16,of:=0#32 }
 | 9=>{ h with k:=0#8,id:=0#16,tg:=0#16,of:=0#32,ln:=0#32 }
 | _=>{ h with k:=0#8 }
def spE(k:Nat)(E:Option Addr):Option Addr:=if k=4\/k=5 then none else E
def spN(k n:Nat):Nat:=if k=4\/k=5 then 0 else n
theorem sp_else{k:Nat}(h:Hd)(h0:k≠0)(h1:k≠1)(h2:k≠2)(h3:k≠3)(h6:k≠6)(h7:k≠7)(h9:k≠9):sp k h={ h with k:=0#8 }:=by
 unfold sp
 split <;> first|(exfalso;omega)|rfl
theorem spare_st(hs:St w0 X L w)(h:Hd){k:Nat}(hk:h.k.toNat=k){EA DA:Option Addr}{en ec dn dc:Nat} :
  Calls Tryz.prog 191 #[.agg (pc h EA en ec DA dn dc).toArray] w fun e w'=>e=.returned (.agg (pc (sp k h) (spE k EA) (spN k en) (spN k ec) none 0 0).toArray)/\St w0 X L w':=by
 obtain⟨Z,hZ,hZL⟩:=zPdu
 have HZ:=Lib.hid hZ
 have ZL:=Lib.hid hZL
 have key:(k=0\/k=1\/k=2\/k=3\/k=4\/k=5\/k=6\/k=9)\/(k=7/\h.su=false)\/(k=7/\h.su=true)\/(k≠0/\k≠1/\k≠2/\k≠3/\k≠4/\k≠5/\k≠6/\k≠7/\k≠9):=by cases h.su <;> simp <;> omega
 have hx:n8 h.k=(k:Int):=by unfold n8;rw[hk]
 obtain⟨R,hR⟩:∃ R,R=pc (sp k h) (spE k EA) (spN k en) (spN k ec) none 0 0:=⟨_,rfl⟩
 rw[<-hR];clear hZ hZL hk;unfold pc;rw[hx];clear hx
 rcases key with (rfl|rfl|rfl|rfl|rfl|rfl|rfl|rfl)|⟨rfl,hsu⟩|⟨rfl,hsu⟩|⟨h0,h1,h2,h3,h4,h5,h6,h7,h9⟩
 ·obtain rfl:R=[.int .u8 0,.bool h.la,.bool h.su,.slice EA en ec,.int .u16 (n16 h.id),.int .u16 (n16 h.tg),.int .u32 (n32 h.of),.int .u32 (n32 h.ln),.int .u8 0,.int .u8 0,.int .u32 0,.int .u16 (n16 h.st),.int .u32 (n32 h.nf),.slice none 0 0]:=hR.trans (rfl)
  clear hR
  go_enter Tryz.func191,Tryz.ntmps191
  go_wp2_with (first|((with_reducible refine Se.iL 2 ?_);(refine Se.Al hs rfl (HZ.out) ?_;clear hs;rintro w g2-hs))|((with_reducible refine Se.iL 4 ?_);(refine Se.Ld hs rfl rfl (Cell.blk 1 rfl rfl) ?_))|((with_reducible refine Se.isL (o:=⟨none,Op.store 65 _ _,_,_,_,_⟩) ?_);(refine Se.Sow 0 hs rfl rfl rfl rfl (by simp[Value.oneCell']) (by kernel_rfl) (by rw[ZL.out];rfl) ?_;clear hs;intro w hs;try simp only[pS] at hs))|((with_reducible refine Se.iL 47 ?_);(refine Se.Ldw hs rfl rfl (Reads.blk 1 rfl) (by kernel_rfl) ?_))|((with_reducible refine Se.iN ?_);(refine Se.So 1 hs rfl rfl rfl (by simp) ?_;clear hs;intro w hs;try simp only[pS] at hs))|((first|with_reducible refine Se.ab hs ?_|with_reducible refine Se.abc hs ?_);clear hs;(first|(generalize w.heap.size=g1;intro w hs))))
  refine Li.bodyPost_blk (by rfl) (by rfl) (hs.hold (.blk g2 65 _) List.mem_cons_self) Tryz.underlying65 rfl (by kernel_rfl) rfl ⟨rfl,?_⟩;exact hs.drop.drop
 ·obtain rfl:R=[.int .u8 0,.bool h.la,.bool h.su,.slice EA en ec,.int .u16 (n16 h.id),.int .u16 (n16 h.tg),.int .u32 (n32 h.of),.int .u32 (n32 h.ln),.int .u8 0,.int .u8 0,.int .u32 0,.int .u16 (n16 h.st),.int .u32 (n32 h.nf),.slice none 0 0]:=hR.trans (rfl)
  clear hR
  go_enter Tryz.func191,Tryz.ntmps191
  go_wp2_with (first|((with_reducible refine Se.iL 2 ?_);(refine Se.Al hs rfl (HZ.out) ?_;clear hs;rintro w g2-hs))|((with_reducible refine Se.iL 4 ?_);(refine Se.Ld hs rfl rfl (Cell.blk 1 rfl rfl) ?_))|((with_reducible refine Se.isL (o:=⟨none,Op.store 65 _ _,_,_,_,_⟩) ?_);(refine Se.Sow 0 hs rfl rfl rfl rfl (by simp[Value.oneCell']) (by kernel_rfl) (by rw[ZL.out];rfl) ?_;clear hs;intro w hs;try simp only[pS] at hs))|((with_reducible refine Se.iL 47 ?_);(refine Se.Ldw hs rfl rfl (Reads.blk 1 rfl) (by kernel_rfl) ?_))|((with_reducible refine Se.iN ?_);(refine Se.So 1 hs rfl rfl rfl (by simp) ?_;clear hs;intro w hs;try simp only[pS] at hs))|((first|with_reducible refine Se.ab hs ?_|with_reducible refine Se.abc hs ?_);clear hs;(first|(generalize w.heap.size=g1;intro w hs))))
  refine Li.bodyPost_blk (by rfl) (by rfl) (hs.hold (.blk g2 65 _) List.mem_cons_self) Tryz.underlying65 rfl (by kernel_rfl) rfl ⟨rfl,?_⟩;exact hs.drop.drop
 ·obtain rfl:R=[.int .u8 0,.bool h.la,.bool h.su,.slice EA en ec,.int .u16 (n16 h.id),.int .u16 (n16 h.tg),.int .u32 (n32 h.of),.int .u32 (n32 h.ln),.int .u8 (n8 h.al),.int .u8 (n8 h.dg),.int .u32 (n32 h.mx),.int .u16 0,.int .u32 0,.slice none 0 0]:=hR.trans (rfl)
  clear hR
  go_enter Tryz.func191,Tryz.ntmps191
  go_wp2_with (first|((with_reducible refine Se.iL 2 ?_);(refine Se.Al hs rfl (HZ.out) ?_;clear hs;rintro w g2-hs))|((with_reducible refine Se.iL 4 ?_);(refine Se.Ld hs rfl rfl (Cell.blk 1 rfl rfl) ?_))|((with_reducible refine Se.isL (o:=⟨none,Op.store 65 _ _,_,_,_,_⟩) ?_);(refine Se.Sow 0 hs rfl rfl rfl rfl (by simp[Value.oneCell']) (by kernel_rfl) (by rw[ZL.out];rfl) ?_;clear hs;intro w hs;try simp only[pS] at hs))|((with_reducible refine Se.iL 47 ?_);(refine Se.Ldw hs rfl rfl (Reads.blk 1 rfl) (by kernel_rfl) ?_))|((with_reducible refine Se.iN ?_);(refine Se.So 1 hs rfl rfl rfl (by simp) ?_;clear hs;intro w hs;try simp only[pS] at hs))|((first|with_reducible refine Se.ab hs ?_|with_reducible refine Se.abc hs ?_);clear hs;(first|(generalize w.heap.size=g1;intro w hs))))
  refine Li.bodyPost_blk (by rfl) (by rfl) (hs.hold (.blk g2 65 _) List.mem_cons_self) Tryz.underlying65 rfl (by kernel_rfl) rfl ⟨rfl,?_⟩;exact hs.drop.drop
 ·obtain rfl:R=[.int .u8 0,.bool h.la,.bool h.su,.slice EA en ec,.int .u16 (n16 h.id),.int .u16 (n16 h.tg),.int .u32 (n32 h.of),.int .u32 (n32 h.ln),.int .u8 (n8 h.al),.int .u8 (n8 h.dg),.int .u32 (n32 h.mx),.int .u16 0,.int .u32 0,.slice none 0 0]:=hR.trans (rfl)
  clear hR
  go_enter Tryz.func191,Tryz.ntmps191
  go_wp2_with (first|((with_reducible refine Se.iL 2 ?_);(refine Se.Al hs rfl (HZ.out) ?_;clear hs;rintro w g2-hs))|((with_reducible refine Se.iL 4 ?_);(refine Se.Ld hs rfl rfl (Cell.blk 1 rfl rfl) ?_))|((with_reducible refine Se.isL (o:=⟨none,Op.store 65 _ _,_,_,_,_⟩) ?_);(refine Se.Sow 0 hs rfl rfl rfl rfl (by simp[Value.oneCell']) (by kernel_rfl) (by rw[ZL.out];rfl) ?_;clear hs;intro w hs;try simp only[pS] at hs))|((with_reducible refine Se.iL 47 ?_);(refine Se.Ldw hs rfl rfl (Reads.blk 1 rfl) (by kernel_rfl) ?_))|((with_reducible refine Se.iN ?_);(refine Se.So 1 hs rfl rfl rfl (by simp) ?_;clear hs;intro w hs;try simp only[pS] at hs))|((first|with_reducible refine Se.ab hs ?_|with_reducible refine Se.abc hs ?_);clear hs;(first|(generalize w.heap.size=g1;intro w hs))))
  refine Li.bodyPost_blk (by rfl) (by rfl) (hs.hold (.blk g2 65 _) List.mem_cons_self) Tryz.underlying65 rfl (by kernel_rfl) rfl ⟨rfl,?_⟩;exact hs.drop.drop
 ·obtain rfl:R=[.int .u8 0,.bool h.la,.bool h.su,.slice none 0 0,.int .u16 (n16 h.id),.int .u16 (n16 h.tg),.int .u32 (n32 h.of),.int .u32 (n32 h.ln),.int .u8 (n8 h.al),.int .u8 (n8 h.dg),.int .u32 (n32 h.mx),.int .u16 (n16 h.st),.int .u32 (n32 h.nf),.slice none 0 0]:=hR.trans (rfl)
  clear hR
  go_enter Tryz.func191,Tryz.ntmps191
  go_wp2_with (first|((with_reducible refine Se.iL 2 ?_);(refine Se.Al hs rfl (HZ.out) ?_;clear hs;rintro w g2-hs))|((with_reducible refine Se.iL 4 ?_);(refine Se.Ld hs rfl rfl (Cell.blk 1 rfl rfl) ?_))|((with_reducible refine Se.isL (o:=⟨none,Op.store 65 _ _,_,_,_,_⟩) ?_);(refine Se.Sow 0 hs rfl rfl rfl rfl (by simp[Value.oneCell']) (by kernel_rfl) (by rw[ZL.out];rfl) ?_;clear hs;intro w hs;try simp only[pS] at hs))|((with_reducible refine Se.iL 47 ?_);(refine Se.Ldw hs rfl rfl (Reads.blk 1 rfl) (by kernel_rfl) ?_))|((with_reducible refine Se.iN ?_);(refine Se.So 1 hs rfl rfl rfl (by simp) ?_;clear hs;intro w hs;try simp only[pS] at hs))|((first|with_reducible refine Se.ab hs ?_|with_reducible refine Se.abc hs ?_);clear hs;(first|(generalize w.heap.size=g1;intro w hs))))
  refine Li.bodyPost_blk (by rfl) (by rfl) (hs.hold (.blk g2 65 _) List.mem_cons_self) Tryz.underlying65 rfl (by kernel_rfl) rfl ⟨rfl,?_⟩;exact hs.drop.drop
 ·obtain rfl:R=[.int .u8 0,.bool h.la,.bool h.su,.slice none 0 0,.int .u16 (n16 h.id),.int .u16 (n16 h.tg),.int .u32 (n32 h.of),.int .u32 (n32 h.ln),.int .u8 (n8 h.al),.int .u8 (n8 h.dg),.int .u32 (n32 h.mx),.int .u16 (n16 h.st),.int .u32 (n32 h.nf),.slice none 0 0]:=hR.trans (rfl)
  clear hR
  go_enter Tryz.func191,Tryz.ntmps191
  go_wp2_with (first|((with_reducible refine Se.iL 2 ?_);(refine Se.Al hs rfl (HZ.out) ?_;clear hs;rintro w g2-hs))|((with_reducible refine Se.iL 4 ?_);(refine Se.Ld hs rfl rfl (Cell.blk 1 rfl rfl) ?_))|((with_reducible refine Se.isL (o:=⟨none,Op.store 65 _ _,_,_,_,_⟩) ?_);(refine Se.Sow 0 hs rfl rfl rfl rfl (by simp[Value.oneCell']) (by kernel_rfl) (by rw[ZL.out];rfl) ?_;clear hs;intro w hs;try simp only[pS] at hs))|((with_reducible refine Se.iL 47 ?_);(refine Se.Ldw hs rfl rfl (Reads.blk 1 rfl) (by kernel_rfl) ?_))|((with_reducible refine Se.iN ?_);(refine Se.So 1 hs rfl rfl rfl (by simp) ?_;clear hs;intro w hs;try simp only[pS] at hs))|((first|with_reducible refine Se.ab hs ?_|with_reducible refine Se.abc hs ?_);clear hs;(first|(generalize w.heap.size=g1;intro w hs))))
  refine Li.bodyPost_blk (by rfl) (by rfl) (hs.hold (.blk g2 65 _) List.mem_cons_self) Tryz.underlying65 rfl (by kernel_rfl) rfl ⟨rfl,?_⟩;exact hs.drop.drop
 ·obtain rfl:R=[.int .u8 0,.bool false,.bool h.su,.slice EA en ec,.int .u16 0,.int .u16 0,.int .u32 0,.int .u32 (n32 h.ln),.int .u8 (n8 h.al),.int .u8 (n8 h.dg),.int .u32 (n32 h.mx),.int .u16 (n16 h.st),.int .u32 (n32 h.nf),.slice none 0 0]:=hR.trans (rfl)
  clear hR
  go_enter Tryz.func191,Tryz.ntmps191
  go_wp2_with (first|((with_reducible refine Se.iL 2 ?_);(refine Se.Al hs rfl (HZ.out) ?_;clear hs;rintro w g2-hs))|((with_reducible refine Se.iL 4 ?_);(refine Se.Ld hs rfl rfl (Cell.blk 1 rfl rfl) ?_))|((with_reducible refine Se.isL (o:=⟨none,Op.store 65 _ _,_,_,_,_⟩) ?_);(refine Se.Sow 0 hs rfl rfl rfl rfl (by simp[Value.oneCell']) (by kernel_rfl) (by rw[ZL.out];rfl) ?_;clear hs;intro w hs;try simp only[pS] at hs))|((with_reducible refine Se.iL 47 ?_);(refine Se.Ldw hs rfl rfl (Reads.blk 1 rfl) (by kernel_rfl) ?_))|((with_reducible refine Se.iN ?_);(refine Se.So 1 hs rfl rfl rfl (by simp) ?_;clear hs;intro w hs;try simp only[pS] at hs))|((first|with_reducible refine Se.ab hs ?_|with_reducible refine Se.abc hs ?_);clear hs;(first|(generalize w.heap.size=g1;intro w hs))))
  refine Li.bodyPost_blk (by rfl) (by rfl) (hs.hold (.blk g2 65 _) List.mem_cons_self) Tryz.underlying65 rfl (by kernel_rfl) rfl ⟨rfl,?_⟩;exact hs.drop.drop
 ·obtain rfl:R=[.int .u8 0,.bool h.la,.bool h.su,.slice EA en ec,.int .u16 0,.int .u16 0,.int .u32 0,.int .u32 0,.int .u8 (n8 h.al),.int .u8 (n8 h.dg),.int .u32 (n32 h.mx),.int .u16 (n16 h.st),.int .u32 (n32 h.nf),.slice none 0 0]:=hR.trans (rfl)
  clear hR
  go_enter Tryz.func191,Tryz.ntmps191
  go_wp2_with (first|((with_reducible refine Se.iL 2 ?_);(refine Se.Al hs rfl (HZ.out) ?_;clear hs;rintro w g2-hs))|((with_reducible refine Se.iL 4 ?_);(refine Se.Ld hs rfl rfl (Cell.blk 1 rfl rfl) ?_))|((with_reducible refine Se.isL (o:=⟨none,Op.store 65 _ _,_,_,_,_⟩) ?_);(refine Se.Sow 0 hs rfl rfl rfl rfl (by simp[Value.oneCell']) (by kernel_rfl) (by rw[ZL.out];rfl) ?_;clear hs;intro w hs;try simp only[pS] at hs))|((with_reducible refine Se.iL 47 ?_);(refine Se.Ldw hs rfl rfl (Reads.blk 1 rfl) (by kernel_rfl) ?_))|((with_reducible refine Se.iN ?_);(refine Se.So 1 hs rfl rfl rfl (by simp) ?_;clear hs;intro w hs;try simp only[pS] at hs))|((first|with_reducible refine Se.ab hs ?_|with_reducible refine Se.abc hs ?_);clear hs;(first|(generalize w.heap.size=g1;intro w hs))))
  refine Li.bodyPost_blk (by rfl) (by rfl) (hs.hold (.blk g2 65 _) List.mem_cons_self) Tryz.underlying65 rfl (by kernel_rfl) rfl ⟨rfl,?_⟩;exact hs.drop.drop
 ·obtain rfl:R=[.int .u8 0,.bool false,.bool false,.slice EA en ec,.int .u16 0,.int .u16 (n16 h.tg),.int .u32 0,.int .u32 (n32 h.ln),.int .u8 (n8 h.al),.int .u8 (n8 h.dg),.int .u32 (n32 h.mx),.int .u16 (n16 h.st),.int .u32 (n32 h.nf),.slice none 0 0]:=hR.trans (by unfold sp;simp only[hsu];rfl)
  clear hR;rw[hsu];clear hsu
  go_enter Tryz.func191,Tryz.ntmps191
  go_wp2_with (first|((with_reducible refine Se.iL 2 ?_);(refine Se.Al hs rfl (HZ.out) ?_;clear hs;rintro w g2-hs))|((with_reducible refine Se.iL 4 ?_);(refine Se.Ld hs rfl rfl (Cell.blk 1 rfl rfl) ?_))|((with_reducible refine Se.iL 29 ?_);(refine Se.Ld hs rfl rfl (Cell.blk 1 rfl rfl) ?_))|((with_reducible refine Se.isL (o:=⟨none,Op.store 65 _ _,_,_,_,_⟩) ?_);(refine Se.Sow 0 hs rfl rfl rfl rfl (by simp[Value.oneCell']) (by kernel_rfl) (by rw[ZL.out];rfl) ?_;clear hs;intro w hs;try simp only[pS] at hs))|((with_reducible refine Se.iL 47 ?_);(refine Se.Ldw hs rfl rfl (Reads.blk 1 rfl) (by kernel_rfl) ?_))|((with_reducible refine Se.iN ?_);(refine Se.So 1 hs rfl rfl rfl (by simp) ?_;clear hs;intro w hs;try simp only[pS] at hs))|((first|with_reducible refine Se.ab hs ?_|with_reducible refine Se.abc hs ?_);clear hs;(first|(generalize w.heap.size=g1;intro w hs))))
  refine Li.bodyPost_blk (by rfl) (by rfl) (hs.hold (.blk g2 65 _) List.mem_cons_self) Tryz.underlying65 rfl (by kernel_rfl) rfl ⟨rfl,?_⟩;exact hs.drop.drop
 ·obtain rfl:R=[.int .u8 0,.bool false,.bool (!h.la),.slice EA en ec,.int .u16 0,.int .u16 (n16 h.tg),.int .u32 0,.int .u32 (n32 h.ln),.int .u8 (n8 h.al),.int .u8 (n8 h.dg),.int .u32 (n32 h.mx),.int .u16 (n16 h.st),.int .u32 (n32 h.nf),.slice none 0 0]:=hR.trans (by unfold sp;simp only[hsu];rfl)
  clear hR;rw[hsu];clear hsu
  go_enter Tryz.func191,Tryz.ntmps191
  go_wp2_with (first|((with_reducible refine Se.iL 2 ?_);(refine Se.Al hs rfl (HZ.out) ?_;clear hs;rintro w g2-hs))|((with_reducible refine Se.iL 4 ?_);(refine Se.Ld hs rfl rfl (Cell.blk 1 rfl rfl) ?_))|((with_reducible refine Se.iL 29 ?_);(refine Se.Ld hs rfl rfl (Cell.blk 1 rfl rfl) ?_))|((with_reducible refine Se.iL 32 ?_);(refine Se.Ld hs rfl rfl (Cell.blk 1 rfl rfl) ?_))|((with_reducible refine Se.isL (o:=⟨none,Op.store 65 _ _,_,_,_,_⟩) ?_);(refine Se.Sow 0 hs rfl rfl rfl rfl (by simp[Value.oneCell']) (by kernel_rfl) (by rw[ZL.out];rfl) ?_;clear hs;intro w hs;try simp only[pS] at hs))|((with_reducible refine Se.iL 47 ?_);(refine Se.Ldw hs rfl rfl (Reads.blk 1 rfl) (by kernel_rfl) ?_))|((with_reducible refine Se.iN ?_);(refine Se.So 1 hs rfl rfl rfl (by simp) ?_;clear hs;intro w hs;try simp only[pS] at hs))|((first|with_reducible refine Se.ab hs ?_|with_reducible refine Se.abc hs ?_);clear hs;(first|(generalize w.heap.size=g1;intro w hs))))
  refine Li.bodyPost_blk (by rfl) (by rfl) (hs.hold (.blk g2 65 _) List.mem_cons_self) Tryz.underlying65 rfl (by kernel_rfl) rfl ⟨rfl,?_⟩;exact hs.drop.drop
 ·obtain rfl:R=[.int .u8 0,.bool h.la,.bool h.su,.slice EA en ec,.int .u16 (n16 h.id),.int .u16 (n16 h.tg),.int .u32 (n32 h.of),.int .u32 (n32 h.ln),.int .u8 (n8 h.al),.int .u8 (n8 h.dg),.int .u32 (n32 h.mx),.int .u16 (n16 h.st),.int .u32 (n32 h.nf),.slice none 0 0]:=hR.trans (by rw[sp_else h h0 h1 h2 h3 h6 h7 h9];unfold spE spN;rw[if_neg (by omega),if_neg (by omega),if_neg (by omega)];rfl)
  clear hR
  have q0:(((k:Nat):Int)==0)=false:=by simp;omega
  have q1:(((k:Nat):Int)==1)=false:=by simp;omega
  have q2:(((k:Nat):Int)==2)=false:=by simp;omega
  have q3:(((k:Nat):Int)==3)=false:=by simp;omega
  have q4:(((k:Nat):Int)==4)=false:=by simp;omega
  have q5:(((k:Nat):Int)==5)=false:=by simp;omega
  have q6:(((k:Nat):Int)==6)=false:=by simp;omega
  have q7:(((k:Nat):Int)==7)=false:=by simp;omega
  have q9:(((k:Nat):Int)==9)=false:=by simp;omega
  clear h0 h1 h2 h3 h4 h5 h6 h7 h9
  go_enter Tryz.func191,Tryz.ntmps191
  go_wp2_with (first|((with_reducible refine Se.iL 2 ?_);(refine Se.Al hs rfl (HZ.out) ?_;clear hs;rintro w g2-hs))|((with_reducible refine Se.iL 4 ?_);(refine Se.Ld hs rfl rfl (Cell.blk 1 rfl rfl) ?_))|((with_reducible refine Se.isL (o:=⟨none,Op.store 65 _ _,_,_,_,_⟩) ?_);(refine Se.Sow 0 hs rfl rfl rfl rfl (by simp[Value.oneCell']) (by kernel_rfl) (by rw[ZL.out];rfl) ?_;clear hs;intro w hs;try simp only[pS] at hs))|((with_reducible refine Se.iL 47 ?_);(refine Se.Ldw hs rfl rfl (Reads.blk 1 rfl) (by kernel_rfl) ?_))|((with_reducible refine Se.iN ?_);(refine Se.So 1 hs rfl rfl rfl (by simp) ?_;clear hs;intro w hs;try simp only[pS] at hs))|((first|with_reducible refine Se.ab hs ?_|with_reducible refine Se.abc hs ?_);clear hs;(first|(generalize w.heap.size=g1;intro w hs))))
  refine Li.bodyPost_blk (by rfl) (by rfl) (hs.hold (.blk g2 65 _) List.mem_cons_self) Tryz.underlying65 rfl (by kernel_rfl) rfl ⟨rfl,?_⟩;exact hs.drop.drop
end Pd
end Go.Proofs.YtjnllcnknjlmmaaGreat
namespace Go.Proofs.YtjnllcnknjlmmaaGreat
open Go Go.RowKit
namespace Pd
open Se (St At Reads Cell)
open Li (v8)
variable {w0 w:World} {X:List Nat} {L:List At}
attribute [local irreducible] Calls
def ownv(k:Nat)(h:Hd):Bool :=
 match k with
 | 0=>decide (h.al.toNat<=31/\h.dg.toNat<=3)
 | 1=>decide (h.al.toNat<=31/\h.dg.toNat<=3/\4096<=h.mx.toNat/\h.mx.toNat%4=0)
 | 9=>decide (0<h.ln.toNat)
 | _=>true
def spL(k:Nat)(en:List (BitVec 8)):List (BitVec 8):=if k=4\/k=5 then [] else en
def pv(p:PDU):Bool :=
 let k:=p.h.k.toNat
 decide (hdr k≠0) && !(decide (p.en.length≠entl k)) && !(decide (p.da.length<least k)) && !(decide (most k<p.da.length))&&(spL k p.en==[]&&eqH (sp k p.h) {})&&ownv k p.h
theorem valid_eq(p:PDU):valid p=pv p:=by
 obtain⟨h,en,da⟩:=p
 obtain⟨k,la,su,id,tg,of,ln,al,dg,mx,st,nf⟩:=h
 unfold pv
 dsimp only
 rw[eqH_iff]
 obtain⟨q,hq⟩:∃ q,q=k.toNat:=⟨_,rfl⟩
 unfold valid only own
 dsimp only
 rw[<-hq];clear hq
 have h0:(q=0\/q=1\/q=2\/q=3\/q=4\/q=5\/q=6\/q=7\/q=9)\/hdr q=0:=by
  rcases kinds_cases q with h|h
  ·exact .inl h
  ·exact .inr (hdr_none q h)
 rcases h0 with (rfl|rfl|rfl|rfl|rfl|rfl|rfl|rfl|rfl)|h0
 all_goals first
  | (rw[h0];rfl)
  | (rw[Bool.eq_iff_iff];simp only[hdr,most,entl,least,sp,spL,ownv];simp;(try simp only[List.length_pos_iff]);(try grind))
theorem own_fn(k:Nat)(hk:hdr k≠0):∃ n,valF k=fnv n/\(n=192\/n=195\/n=203\/n=196)/\∀ {w0 w:World} {X:List Nat} {L:List At} {h:Hd} {EA DA:Option Addr} {en ec dn dc:Nat},St w0 X L w->Calls Tryz.prog n #[.agg (pc h EA en ec DA dn dc).toArray] w fun e w'=>e=.returned (.bool (ownv k h))/\St w0 X L w':=by
 have key:k=0\/k=1\/k=9\/(k=2\/k=3\/k=4\/k=5\/k=6\/k=7):=by
  rcases kinds_cases k with h|h
  ·omega
  ·exact absurd (hdr_none k h) hk
 rcases key with rfl|rfl|rfl|rfl|rfl|rfl|rfl|rfl|rfl
 ·exact⟨_,rfl,.inl rfl,fun hs=>validInit_st hs⟩
 ·exact⟨_,rfl,.inr (.inl rfl),fun hs=>validResponse_st hs⟩
 ·exact⟨_,rfl,.inr (.inr (.inl rfl)),fun hs=>validReady_st hs⟩
 all_goals exact⟨_,rfl,.inr (.inr (.inr rfl)),fun hs=>always_st hs⟩
theorem bpdu0(w:World):(Instr.build 65 #[]).run Tryz.prog w=.ok (.agg (pc {} none 0 0 none 0 0).toArray) w:=by kernel_rfl
theorem spL_reads{L:List At}{k:Nat}{EA:Option Addr}{en:List (BitVec 8)}(h:Reads L EA (en.map v8)):Reads L (spE k EA) ((spL k en).map v8):=by
 unfold spE spL
 by_cases hk:k=4\/k=5
 ·rw[if_pos hk,if_pos hk];exact Reads.nil
 ·rw[if_neg hk,if_neg hk];exact h
theorem validP_st(hs:St w0 X L w)(p:PDU){EA DA:Option Addr}{en ec dn dc:Nat}(hE:Reads L EA (p.en.map v8))(hD:Reads L DA (p.da.map v8))(he:en=p.en.length)(hd:dn=p.da.length)(le:en<=70368744177664)(ld:dn<=70368744177664){b:Bool}(hb:valid p=b) :
  Calls Tryz.prog 162 #[.agg (pc p.h EA en ec DA dn dc).toArray] w fun e w'=>e=.returned (.bool b)/\St w0 X L w':=by
 obtain⟨k,hk⟩:∃ k,k=p.h.k.toNat:=⟨_,rfl⟩
 have hkl:k<256:=by rw[hk];exact p.h.k.isLt
 obtain⟨P,hP⟩:∃ P,P=pc p.h EA en ec DA dn dc:=⟨_,rfl⟩
 obtain⟨Q,hQ⟩:∃ Q,Q=pc (sp k p.h) (spE k EA) (spN k en) (spN k ec) none 0 0:=⟨_,rfl⟩
 obtain⟨Z,hZ⟩:∃ Z,Z=pc {} none 0 0 none 0 0:=⟨_,rfl⟩
 obtain⟨xs,hxs⟩:∃ xs,shV k=xs:=⟨_,rfl⟩
 obtain⟨b1,hb1⟩:∃ b1,decide (hdr k≠0)=b1:=⟨_,rfl⟩
 obtain⟨b2,hb2⟩:∃ b2,decide (p.en.length≠entl k)=b2:=⟨_,rfl⟩
 obtain⟨b3,hb3⟩:∃ b3,decide (p.da.length<least k)=b3:=⟨_,rfl⟩
 obtain⟨b4,hb4⟩:∃ b4,decide (most k<p.da.length)=b4:=⟨_,rfl⟩
 obtain⟨b5,hb5⟩:∃ b5,(spL k p.en==[]&&eqH (sp k p.h) {})=b5:=⟨_,rfl⟩
 obtain⟨b6,hb6⟩:∃ b6,ownv k p.h=b6:=⟨_,rfl⟩
 have HB:Hid ((b1 && !b2 && !b3 && !b4&&b5&&b6)=b):=Lib.hid (by rw[<-hb,valid_eq,<-hb1,<-hb2,<-hb3,<-hb4,<-hb5,<-hb6,hk];rfl)
 have PL:=Lib.hid (show P.length=14 by rw[hP];rfl)
 have P0:=Lib.hid (show P[0]? = some (.int .u8 (k:Int)) by rw[hP,hk];rfl)
 have P3:=Lib.hid (show P[3]? = some (.slice EA en ec) by rw[hP];rfl)
 have P13:=Lib.hid (show P[13]? = some (.slice DA dn dc) by rw[hP];rfl)
 have XL:=Lib.hid (show xs.length=7 by rw[<-hxs,shV_eq];rfl)
 have X1:=Lib.hid (show xs[1]? = some (iv (entl k)) by rw[<-hxs,shV_eq];rfl)
 have X2:=Lib.hid (show xs[2]? = some (iv (least k)) by rw[<-hxs,shV_eq];rfl)
 have X3:=Lib.hid (show xs[3]? = some (iv (most k)) by rw[<-hxs,shV_eq];rfl)
 have X4:=Lib.hid (show xs[4]? = some (valF k) by rw[<-hxs,shV_eq];rfl)
 have XO:=Lib.hid (show ∀ v∈xs,v.oneCell'=true by rw[<-hxs];exact shV_one k)
 have ZS:=Lib.hid zShape
 have ZSL:=Lib.hid (show(shV 8).length=7 by rw[shV_eq];rfl)
 have e2:((en:Int) != (entl k:Int))=b2:=by rw[<-hb2,he];rw[Bool.eq_iff_iff];simp;omega
 have e3:decide (dn<least k)=b3:=by rw[<-hb3,hd]
 have e4:decide (most k<dn)=b4:=by rw[<-hb4,hd]
 have CO:Hid (∀ (L':List At) (w:World),St w0 X (L'++L) w->Calls Tryz.prog 130 #[.int .u8 k] w fun e w'=>e=.returned (.tuple #[.agg xs.toArray,.bool b1])/\St w0 X (L'++L) w'):=Lib.hid (fun L' w hs=>of_st hs k hkl hb1 hxs)
 have CS:Hid (∀ (L':List At) (w:World),St w0 X (L'++L) w->Calls Tryz.prog 191 #[.agg P.toArray] w fun e w'=>e=.returned (.agg Q.toArray)/\St w0 X (L'++L) w'):=Lib.hid (fun L' w hs=>by rw[hP,hQ];exact spare_st hs p.h hk.symm)
 have CE:Hid (∀ (L':List At) (w:World),St w0 X (L'++L) w->Calls Tryz.prog 190 #[.agg Q.toArray,.agg Z.toArray] w fun e w'=>e=.returned (.bool b5)/\St w0 X (L'++L) w'):=Lib.hid (fun L' w hs=>by
  rw[hQ,hZ];refine equalP_st hs (sp k p.h) {} (es:=spL k p.en) (fs:=[]) (da:=[]) (db:=[]) ?_ rfl rfl rfl ?_ Reads.nil Reads.nil Reads.nil ?_ (by decide) (by rw[<-hb5];simp)
  ·unfold spN spL;split <;> first|rfl|exact he
  ·exact spL_reads (hE.app L')
  ·unfold spN;split <;> omega)
 have BZ:Hid (∀ w:World,(Instr.build 65 #[]).run Tryz.prog w=.ok (.agg Z.toArray) w):=Lib.hid (by rw[hZ];exact bpdu0)
 have CV:Hid (b1=true->∃ n,valF k=fnv n/\(n=192\/n=195\/n=203\/n=196)/\∀ (L':List At) (w:World),St w0 X (L'++L) w->Calls Tryz.prog n #[.agg P.toArray] w fun e w'=>e=.returned (.bool b6)/\St w0 X (L'++L) w'):=Lib.hid (fun hb=>by
  obtain⟨n,h1,h3,h2⟩:=own_fn k (by rw[hb] at hb1;simpa using hb1)
  refine⟨n,h1,h3,fun L' w hs=>?_⟩;rw[hP,<-hb6];exact h2 hs)
 obtain⟨E1,hE1⟩:∃ E1,E1=entl k:=⟨_,rfl⟩
 obtain⟨E2,hE2⟩:∃ E2,E2=least k:=⟨_,rfl⟩
 obtain⟨E3,hE3⟩:∃ E3,E3=most k:=⟨_,rfl⟩
 rw[<-hE1] at X1 e2;rw[<-hE2] at X2 e3;rw[<-hE3] at X3 e4;rw[<-hP];clear hP hQ hZ hxs hb1 hb2 hb3 hb4 hb5 hb6 hb hE hD he hd le ld hk hkl hE1 hE2 hE3
 cases b1 with
 | false =>
  obtain rfl:b=false:=HB.out.symm
  clear e2 e3 e4
  go_enter Tryz.func162,Tryz.ntmps162
  go_wp2_with (first|((with_reducible refine Se.iL 7 ?_);(refine Se.Ld hs rfl rfl (Cell.blk 0 rfl P0.out) ?_))|((with_reducible refine Se.iL 3 ?_);(refine Se.Al hs rfl (ZS.out) ?_;clear hs;rintro w g3-hs))|((with_reducible refine Se.isL (o:=⟨none,Op.store 217 _ _,_,_,_,_⟩) ?_);(refine Se.Sow 0 hs rfl rfl rfl rfl (XO.out) (by rw[XL.out];kernel_rfl) (by rw[XL.out,ZSL.out]) ?_;clear hs;intro w hs;try simp only[pS] at hs))|((first|with_reducible refine Se.ab hs ?_|with_reducible refine Se.abc hs ?_);clear hs;(first|(generalize w.heap.size=g1;intro w hs)))|(go_at_call 130;refine Calls.mono (CO.out [_] _ hs) ?_;clear hs;rintro e w ⟨rfl,hs⟩))
  go_ret;exact⟨rfl,hs.drop.drop⟩
 | true =>
  cases b2 with
  | true =>
   obtain rfl:b=false:=HB.out.symm
   clear e3 e4
   go_enter Tryz.func162,Tryz.ntmps162
   go_wp2_with (first|((with_reducible refine Se.iL 7 ?_);(refine Se.Ld hs rfl rfl (Cell.blk 0 rfl P0.out) ?_))|((with_reducible refine Se.iL 3 ?_);(refine Se.Al hs rfl (ZS.out) ?_;clear hs;rintro w g3-hs))|((with_reducible refine Se.isL (o:=⟨none,Op.store 217 _ _,_,_,_,_⟩) ?_);(refine Se.Sow 0 hs rfl rfl rfl rfl (XO.out) (by rw[XL.out];kernel_rfl) (by rw[XL.out,ZSL.out]) ?_;clear hs;intro w hs;try simp only[pS] at hs))|((with_reducible refine Se.iL 15 ?_);(refine Se.Ld hs rfl rfl (Cell.blk 1 rfl P3.out) ?_))|((with_reducible refine Se.iL 18 ?_);(refine Se.Ld hs rfl rfl (Cell.blk 0 rfl X1.out) ?_))|((first|with_reducible refine Se.ab hs ?_|with_reducible refine Se.abc hs ?_);clear hs;(first|(generalize w.heap.size=g1;intro w hs)))|(go_at_call 130;refine Calls.mono (CO.out [_] _ hs) ?_;clear hs;rintro e w ⟨rfl,hs⟩))
   go_ret;exact⟨rfl,hs.drop.drop⟩
  | false =>
   cases b3 with
   | true =>
    obtain rfl:b=false:=HB.out.symm
    clear e4
    go_enter Tryz.func162,Tryz.ntmps162
    go_wp2_with (first|((with_reducible refine Se.iL 7 ?_);(refine Se.Ld hs rfl rfl (Cell.blk 0 rfl P0.out) ?_))|((with_reducible refine Se.iL 3 ?_);(refine Se.Al hs rfl (ZS.out) ?_;clear hs;rintro w g3-hs))|((with_reducible refine Se.isL (o:=⟨none,Op.store 217 _ _,_,_,_,_⟩) ?_);(refine Se.Sow 0 hs rfl rfl rfl rfl (XO.out) (by rw[XL.out];kernel_rfl) (by rw[XL.out,ZSL.out]) ?_;clear hs;intro w hs;try simp only[pS] at hs))|((with_reducible refine Se.iL 15 ?_);(refine Se.Ld hs rfl rfl (Cell.blk 1 rfl P3.out) ?_))|((with_reducible refine Se.iL 18 ?_);(refine Se.Ld hs rfl rfl (Cell.blk 0 rfl X1.out) ?_))|((with_reducible refine Se.iL 23 ?_);(refine Se.Ld hs rfl rfl (Cell.blk 1 rfl P13.out) ?_))|((with_reducible refine Se.iL 26 ?_);(refine Se.Ld hs rfl rfl (Cell.blk 0 rfl X2.out) ?_))|((first|with_reducible refine Se.ab hs ?_|with_reducible refine Se.abc hs ?_);clear hs;(first|(generalize w.heap.size=g1;intro w hs)))|(go_at_call 130;refine Calls.mono (CO.out [_] _ hs) ?_;clear hs;rintro e w ⟨rfl,hs⟩))
    go_ret;exact⟨rfl,hs.drop.drop⟩
   | false =>
    cases b4 with
    | true =>
     obtain rfl:b=false:=HB.out.symm
     go_enter Tryz.func162,Tryz.ntmps162
     go_wp2_with (first|((with_reducible refine Se.iL 7 ?_);(refine Se.Ld hs rfl rfl (Cell.blk 0 rfl P0.out) ?_))|((with_reducible refine Se.iL 3 ?_);(refine Se.Al hs rfl (ZS.out) ?_;clear hs;rintro w g3-hs))|((with_reducible refine Se.isL (o:=⟨none,Op.store 217 _ _,_,_,_,_⟩) ?_);(refine Se.Sow 0 hs rfl rfl rfl rfl (XO.out) (by rw[XL.out];kernel_rfl) (by rw[XL.out,ZSL.out]) ?_;clear hs;intro w hs;try simp only[pS] at hs))|((with_reducible refine Se.iL 15 ?_);(refine Se.Ld hs rfl rfl (Cell.blk 1 rfl P3.out) ?_))|((with_reducible refine Se.iL 18 ?_);(refine Se.Ld hs rfl rfl (Cell.blk 0 rfl X1.out) ?_))|((with_reducible refine Se.iL 23 ?_);(refine Se.Ld hs rfl rfl (Cell.blk 1 rfl P13.out) ?_))|((with_reducible refine Se.iL 26 ?_);(refine Se.Ld hs rfl rfl (Cell.blk 0 rfl X2.out) ?_))|((with_reducible refine Se.iL 31 ?_);(refine Se.Ld hs rfl rfl (Cell.blk 1 rfl P13.out) ?_))|((with_reducible refine Se.iL 34 ?_);(refine Se.Ld hs rfl rfl (Cell.blk 0 rfl X3.out) ?_))|((first|with_reducible refine Se.ab hs ?_|with_reducible refine Se.abc hs ?_);clear hs;(first|(generalize w.heap.size=g1;intro w hs)))|(go_at_call 130;refine Calls.mono (CO.out [_] _ hs) ?_;clear hs;rintro e w ⟨rfl,hs⟩))
     go_ret;exact⟨rfl,hs.drop.drop⟩
    | false =>
     cases b5 with
     | false =>
      obtain rfl:b=false:=HB.out.symm
      go_enter Tryz.func162,Tryz.ntmps162
      go_wp2_with (first|((with_reducible refine Se.iL 7 ?_);(refine Se.Ld hs rfl rfl (Cell.blk 0 rfl P0.out) ?_))|((with_reducible refine Se.iL 3 ?_);(refine Se.Al hs rfl (ZS.out) ?_;clear hs;rintro w g3-hs))|((with_reducible refine Se.isL (o:=⟨none,Op.store 217 _ _,_,_,_,_⟩) ?_);(refine Se.Sow 0 hs rfl rfl rfl rfl (XO.out) (by rw[XL.out];kernel_rfl) (by rw[XL.out,ZSL.out]) ?_;clear hs;intro w hs;try simp only[pS] at hs))|((with_reducible refine Se.iL 15 ?_);(refine Se.Ld hs rfl rfl (Cell.blk 1 rfl P3.out) ?_))|((with_reducible refine Se.iL 18 ?_);(refine Se.Ld hs rfl rfl (Cell.blk 0 rfl X1.out) ?_))|((with_reducible refine Se.iL 23 ?_);(refine Se.Ld hs rfl rfl (Cell.blk 1 rfl P13.out) ?_))|((with_reducible refine Se.iL 26 ?_);(refine Se.Ld hs rfl rfl (Cell.blk 0 rfl X2.out) ?_))|((with_reducible refine Se.iL 31 ?_);(refine Se.Ld hs rfl rfl (Cell.blk 1 rfl P13.out) ?_))|((with_reducible refine Se.iL 34 ?_);(refine Se.Ld hs rfl rfl (Cell.blk 0 rfl X3.out) ?_))|((with_reducible refine Se.iL 37 ?_);(refine Se.Ldw hs rfl rfl (Reads.blk 1 rfl) (by rw[PL.out];kernel_rfl) ?_))|((with_reducible refine Se.iL 39 ?_);(refine Se.Bd rfl rfl (BZ.out _) ?_))|((first|with_reducible refine Se.ab hs ?_|with_reducible refine Se.abc hs ?_);clear hs;(first|(generalize w.heap.size=g1;intro w hs)))|(go_at_call 130;refine Calls.mono (CO.out [_] _ hs) ?_;clear hs;rintro e w ⟨rfl,hs⟩)|(go_at_call 191;refine Calls.mono (CS.out [_,_] _ hs) ?_;clear hs;rintro e w ⟨rfl,hs⟩)|(go_at_call 190;refine Calls.mono (CE.out [_,_] _ hs) ?_;clear hs;rintro e w ⟨rfl,hs⟩))
      go_ret;exact⟨rfl,hs.drop.drop⟩
     | true =>
      obtain rfl:b=b6:=HB.out.symm
      obtain⟨n,hn,hnn,CN⟩:=CV.out rfl
      rw[hn] at X4
      replace CN:=Lib.hid CN
      clear hn CV
      rcases hnn with rfl|rfl|rfl|rfl
      ·go_enter Tryz.func162,Tryz.ntmps162
       go_wp2_with (first|((with_reducible refine Se.iL 7 ?_);(refine Se.Ld hs rfl rfl (Cell.blk 0 rfl P0.out) ?_))|((with_reducible refine Se.iL 3 ?_);(refine Se.Al hs rfl (ZS.out) ?_;clear hs;rintro w g3-hs))|((with_reducible refine Se.isL (o:=⟨none,Op.store 217 _ _,_,_,_,_⟩) ?_);(refine Se.Sow 0 hs rfl rfl rfl rfl (XO.out) (by rw[XL.out];kernel_rfl) (by rw[XL.out,ZSL.out]) ?_;clear hs;intro w hs;try simp only[pS] at hs))|((with_reducible refine Se.iL 15 ?_);(refine Se.Ld hs rfl rfl (Cell.blk 1 rfl P3.out) ?_))|((with_reducible refine Se.iL 18 ?_);(refine Se.Ld hs rfl rfl (Cell.blk 0 rfl X1.out) ?_))|((with_reducible refine Se.iL 23 ?_);(refine Se.Ld hs rfl rfl (Cell.blk 1 rfl P13.out) ?_))|((with_reducible refine Se.iL 26 ?_);(refine Se.Ld hs rfl rfl (Cell.blk 0 rfl X2.out) ?_))|((with_reducible refine Se.iL 31 ?_);(refine Se.Ld hs rfl rfl (Cell.blk 1 rfl P13.out) ?_))|((with_reducible refine Se.iL 34 ?_);(refine Se.Ld hs rfl rfl (Cell.blk 0 rfl X3.out) ?_))|((with_reducible refine Se.iL 37 ?_);(refine Se.Ldw hs rfl rfl (Reads.blk 1 rfl) (by rw[PL.out];kernel_rfl) ?_))|((with_reducible refine Se.iL 39 ?_);(refine Se.Bd rfl rfl (BZ.out _) ?_))|((with_reducible refine Se.iL 43 ?_);(refine Se.Ld hs rfl rfl (Cell.blk 0 rfl X4.out) ?_))|((with_reducible refine Se.iL 44 ?_);(refine Se.Ldw hs rfl rfl (Reads.blk 1 rfl) (by rw[PL.out];kernel_rfl) ?_))|((first|with_reducible refine Se.ab hs ?_|with_reducible refine Se.abc hs ?_);clear hs;(first|(generalize w.heap.size=g1;intro w hs)))|(go_at_call 130;refine Calls.mono (CO.out [_] _ hs) ?_;clear hs;rintro e w ⟨rfl,hs⟩)|(go_at_call 191;refine Calls.mono (CS.out [_,_] _ hs) ?_;clear hs;rintro e w ⟨rfl,hs⟩)|(go_at_call 190;refine Calls.mono (CE.out [_,_] _ hs) ?_;clear hs;rintro e w ⟨rfl,hs⟩)|(go_at_call 192;refine Calls.mono (CN.out [_,_] _ hs) ?_;clear hs;rintro e w ⟨rfl,hs⟩))
       go_ret;exact⟨rfl,hs.drop.drop⟩
      ·go_enter Tryz.func162,Tryz.ntmps162
       go_wp2_with (first|((with_reducible refine Se.iL 7 ?_);(refine Se.Ld hs rfl rfl (Cell.blk 0 rfl P0.out) ?_))|((with_reducible refine Se.iL 3 ?_);(refine Se.Al hs rfl (ZS.out) ?_;clear hs;rintro w g3-hs))|((with_reducible refine Se.isL (o:=⟨none,Op.store 217 _ _,_,_,_,_⟩) ?_);(refine Se.Sow 0 hs rfl rfl rfl rfl (XO.out) (by rw[XL.out];kernel_rfl) (by rw[XL.out,ZSL.out]) ?_;clear hs;intro w hs;try simp only[pS] at hs))|((with_reducible refine Se.iL 15 ?_);(refine Se.Ld hs rfl rfl (Cell.blk 1 rfl P3.out) ?_))|((with_reducible refine Se.iL 18 ?_);(refine Se.Ld hs rfl rfl (Cell.blk 0 rfl X1.out) ?_))|((with_reducible refine Se.iL 23 ?_);(refine Se.Ld hs rfl rfl (Cell.blk 1 rfl P13.out) ?_))|((with_reducible refine Se.iL 26 ?_);(refine Se.Ld hs rfl rfl (Cell.blk 0 rfl X2.out) ?_))|((with_reducible refine Se.iL 31 ?_);(refine Se.Ld hs rfl rfl (Cell.blk 1 rfl P13.out) ?_))|((with_reducible refine Se.iL 34 ?_);(refine Se.Ld hs rfl rfl (Cell.blk 0 rfl X3.out) ?_))|((with_reducible refine Se.iL 37 ?_);(refine Se.Ldw hs rfl rfl (Reads.blk 1 rfl) (by rw[PL.out];kernel_rfl) ?_))|((with_reducible refine Se.iL 39 ?_);(refine Se.Bd rfl rfl (BZ.out _) ?_))|((with_reducible refine Se.iL 43 ?_);(refine Se.Ld hs rfl rfl (Cell.blk 0 rfl X4.out) ?_))|((with_reducible refine Se.iL 44 ?_);(refine Se.Ldw hs rfl rfl (Reads.blk 1 rfl) (by rw[PL.out];kernel_rfl) ?_))|((first|with_reducible refine Se.ab hs ?_|with_reducible refine Se.abc hs ?_);clear hs;(first|(generalize w.heap.size=g1;intro w hs)))|(go_at_call 130;refine Calls.mono (CO.out [_] _ hs) ?_;clear hs;rintro e w ⟨rfl,hs⟩)|(go_at_call 191;refine Calls.mono (CS.out [_,_] _ hs) ?_;clear hs;rintro e w ⟨rfl,hs⟩)|(go_at_call 190;refine Calls.mono (CE.out [_,_] _ hs) ?_;clear hs;rintro e w ⟨rfl,hs⟩)|(go_at_call 195;refine Calls.mono (CN.out [_,_] _ hs) ?_;clear hs;rintro e w ⟨rfl,hs⟩))
       go_ret;exact⟨rfl,hs.drop.drop⟩
      ·go_enter Tryz.func162,Tryz.ntmps162
       go_wp2_with (first|((with_reducible refine Se.iL 7 ?_);(refine Se.Ld hs rfl rfl (Cell.blk 0 rfl P0.out) ?_))|((with_reducible refine Se.iL 3 ?_);(refine Se.Al hs rfl (ZS.out) ?_;clear hs;rintro w g3-hs))|((with_reducible refine Se.isL (o:=⟨none,Op.store 217 _ _,_,_,_,_⟩) ?_);(refine Se.Sow 0 hs rfl rfl rfl rfl (XO.out) (by rw[XL.out];kernel_rfl) (by rw[XL.out,ZSL.out]) ?_;clear hs;intro w hs;try simp only[pS] at hs))|((with_reducible refine Se.iL 15 ?_);(refine Se.Ld hs rfl rfl (Cell.blk 1 rfl P3.out) ?_))|((with_reducible refine Se.iL 18 ?_);(refine Se.Ld hs rfl rfl (Cell.blk 0 rfl X1.out) ?_))|((with_reducible refine Se.iL 23 ?_);(refine Se.Ld hs rfl rfl (Cell.blk 1 rfl P13.out) ?_))|((with_reducible refine Se.iL 26 ?_);(refine Se.Ld hs rfl rfl (Cell.blk 0 rfl X2.out) ?_))|((with_reducible refine Se.iL 31 ?_);(refine Se.Ld hs rfl rfl (Cell.blk 1 rfl P13.out) ?_))|((with_reducible refine Se.iL 34 ?_);(refine Se.Ld hs rfl rfl (Cell.blk 0 rfl X3.out) ?_))|((with_reducible refine Se.iL 37 ?_);(refine Se.Ldw hs rfl rfl (Reads.blk 1 rfl) (by rw[PL.out];kernel_rfl) ?_))|((with_reducible refine Se.iL 39 ?_);(refine Se.Bd rfl rfl (BZ.out _) ?_))|((with_reducible refine Se.iL 43 ?_);(refine Se.Ld hs rfl rfl (Cell.blk 0 rfl X4.out) ?_))|((with_reducible refine Se.iL 44 ?_);(refine Se.Ldw hs rfl rfl (Reads.blk 1 rfl) (by rw[PL.out];kernel_rfl) ?_))|((first|with_reducible refine Se.ab hs ?_|with_reducible refine Se.abc hs ?_);clear hs;(first|(generalize w.heap.size=g1;intro w hs)))|(go_at_call 130;refine Calls.mono (CO.out [_] _ hs) ?_;clear hs;rintro e w ⟨rfl,hs⟩)|(go_at_call 191;refine Calls.mono (CS.out [_,_] _ hs) ?_;clear hs;rintro e w ⟨rfl,hs⟩)|(go_at_call 190;refine Calls.mono (CE.out [_,_] _ hs) ?_;clear hs;rintro e w ⟨rfl,hs⟩)|(go_at_call 203;refine Calls.mono (CN.out [_,_] _ hs) ?_;clear hs;rintro e w ⟨rfl,hs⟩))
       go_ret;exact⟨rfl,hs.drop.drop⟩
      ·go_enter Tryz.func162,Tryz.ntmps162
       go_wp2_with (first|((with_reducible refine Se.iL 7 ?_);(refine Se.Ld hs rfl rfl (Cell.blk 0 rfl P0.out) ?_))|((with_reducible refine Se.iL 3 ?_);(refine Se.Al hs rfl (ZS.out) ?_;clear hs;rintro w g3-hs))|((with_reducible refine Se.isL (o:=⟨none,Op.store 217 _ _,_,_,_,_⟩) ?_);(refine Se.Sow 0 hs rfl rfl rfl rfl (XO.out) (by rw[XL.out];kernel_rfl) (by rw[XL.out,ZSL.out]) ?_;clear hs;intro w hs;try simp only[pS] at hs))|((with_reducible refine Se.iL 15 ?_);(refine Se.Ld hs rfl rfl (Cell.blk 1 rfl P3.out) ?_))|((with_reducible refine Se.iL 18 ?_);(refine Se.Ld hs rfl rfl (Cell.blk 0 rfl X1.out) ?_))|((with_reducible refine Se.iL 23 ?_);(refine Se.Ld hs rfl rfl (Cell.blk 1 rfl P13.out) ?_))|((with_reducible refine Se.iL 26 ?_);(refine Se.Ld hs rfl rfl (Cell.blk 0 rfl X2.out) ?_))|((with_reducible refine Se.iL 31 ?_);(refine Se.Ld hs rfl rfl (Cell.blk 1 rfl P13.out) ?_))|((with_reducible refine Se.iL 34 ?_);(refine Se.Ld hs rfl rfl (Cell.blk 0 rfl X3.out) ?_))|((with_reducible refine Se.iL 37 ?_);(refine Se.Ldw hs rfl rfl (Reads.blk 1 rfl) (by rw[PL.out];kernel_rfl) ?_))|((with_reducible refine Se.iL 39 ?_);(refine Se.Bd rfl rfl (BZ.out _) ?_))|((with_reducible refine Se.iL 43 ?_);(refine Se.Ld hs rfl rfl (Cell.blk 0 rfl X4.out) ?_))|((with_reducible refine Se.iL 44 ?_);(refine Se.Ldw hs rfl rfl (Reads.blk 1 rfl) (by rw[PL.out];kernel_rfl) ?_))|((first|with_reducible refine Se.ab hs ?_|with_reducible refine Se.abc hs ?_);clear hs;(first|(generalize w.heap.size=g1;intro w hs)))|(go_at_call 130;refine Calls.mono (CO.out [_] _ hs) ?_;clear hs;rintro e w ⟨rfl,hs⟩)|(go_at_call 191;refine Calls.mono (CS.out [_,_] _ hs) ?_;clear hs;rintro e w ⟨rfl,hs⟩)|(go_at_call 190;refine Calls.mono (CE.out [_,_] _ hs) ?_;clear hs;rintro e w ⟨rfl,hs⟩)|(go_at_call 196;refine Calls.mono (CN.out [_,_] _ hs) ?_;clear hs;rintro e w ⟨rfl,hs⟩))
       go_ret;exact⟨rfl,hs.drop.drop⟩
end Pd
end Go.Proofs.YtjnllcnknjlmmaaGreat
namespace Go.Proofs.YtjnllcnknjlmmaaGreat
open Go Go.RowKit
namespace Pd
open Se (St At Reads Cell)
open Li (v8 Rd Blk)
variable {w0 w:World} {X:List Nat} {L:List At}
attribute [local irreducible] Calls
def sizeE(p:PDU)(f:Fm):Nat × Nat:=if framed f=true then if valid p=true then (size p f,0) else (0,2) else (0,2)
def fl(f:Fm):List Value:=[.bool f.hd,.bool f.dd,.int .i64 f.al]
theorem fv_eq(f:Fm):fv f=.agg (fl f).toArray:=rfl
theorem sizeP_st(hs:St w0 X L w)(p:PDU)(f:Fm){EA DA:Option Addr}{en ec dn dc:Nat}(hE:Reads L EA (p.en.map v8))(hD:Reads L DA (p.da.map v8))(he:en=p.en.length)(hd:dn=p.da.length)(le:en<=70368744177664)(ld:dn<=70368744177664){n e:Nat}(hr:sizeE p f=(n,e)) :
  Calls Tryz.prog 129 #[.agg (pc p.h EA en ec DA dn dc).toArray,fv f] w fun e' w'=>e'=.returned (.tuple #[iv n,iv e])/\St w0 X L w':=by
 obtain⟨k,hk⟩:∃ k,k=p.h.k.toNat:=⟨_,rfl⟩
 have hkl:k<256:=by rw[hk];exact p.h.k.isLt
 obtain⟨P,hP⟩:∃ P,P=pc p.h EA en ec DA dn dc:=⟨_,rfl⟩
 obtain⟨F,hF⟩:∃ F,F=fl f:=⟨_,rfl⟩
 obtain⟨xs,hxs⟩:∃ xs,shV k=xs:=⟨_,rfl⟩
 obtain⟨b0,hb0⟩:∃ b0,decide (hdr k≠0)=b0:=⟨_,rfl⟩
 obtain⟨b1,hb1⟩:∃ b1,framed f=b1:=⟨_,rfl⟩
 obtain⟨b2,hb2⟩:∃ b2,valid p=b2:=⟨_,rfl⟩
 obtain⟨b3,hb3⟩:∃ b3,decide (0<dn)=b3:=⟨_,rfl⟩
 obtain⟨h,hh⟩:∃ h,hsum k f=h:=⟨_,rfl⟩
 obtain⟨d,hdd⟩:∃ d,dsum k f b3=d:=⟨_,rfl⟩
 obtain⟨s,hst⟩:∃ s,start k f=s:=⟨_,rfl⟩
 obtain⟨q,hq⟩:∃ q,hdr k=q:=⟨_,rfl⟩
 have hql:q<=128:=by rw[<-hq];exact hdr_le k
 have hhl:h<=4:=by rw[<-hh];exact hsum_le k f
 have hdl:d<=4:=by rw[<-hdd];exact dsum_le k f b3
 have hsl:b1=true->s<=260:=by rw[<-hst,<-hb1];exact start_le k
 have HR:Hid ((if b1=true then if b2=true then (if b3=true then (s+dn+d,0) else (q+h,0)) else (0,2) else (0,2))=(n,e)):=Lib.hid (by
  rw[<-hr,<-hb1,<-hb2,<-hst,<-hdd,<-hh,<-hq,<-hb3];unfold sizeE size ds Pd.hs;rw[<-hk,hd]
  by_cases h0:0<p.da.length <;> simp[h0])
 have PL:=Lib.hid (show P.length=14 by rw[hP];rfl)
 have P0:=Lib.hid (show P[0]? = some (.int .u8 (k:Int)) by rw[hP,hk];rfl)
 have P13:=Lib.hid (show P[13]? = some (.slice DA dn dc) by rw[hP];rfl)
 have FL:=Lib.hid (show F.length=3 by rw[hF];rfl)
 have XL:=Lib.hid (show xs.length=7 by rw[<-hxs,shV_eq];rfl)
 have X0:=Lib.hid (show xs[0]? = some (iv q) by rw[<-hxs,shV_eq,hq];rfl)
 have XO:=Lib.hid (show ∀ v∈xs,v.oneCell'=true by rw[<-hxs];exact shV_one k)
 have ZS:=Lib.hid zShape
 have ZSL:=Lib.hid (show(shV 8).length=7 by rw[shV_eq];rfl)
 have CO:Hid (∀ (L':List At) (w:World),St w0 X (L'++L) w->Calls Tryz.prog 130 #[.int .u8 k] w fun e w'=>e=.returned (.tuple #[.agg xs.toArray,.bool b0])/\St w0 X (L'++L) w'):=Lib.hid (fun L' w hs=>of_st hs k hkl hb0 hxs)
 have CF:Hid (∀ (L':List At) (w:World),St w0 X (L'++L) w->Calls Tryz.prog 161 #[.agg F.toArray] w fun e w'=>e=.returned (.bool b1)/\St w0 X (L'++L) w'):=Lib.hid (fun L' w hs=>by rw[hF,<-fv_eq,<-hb1];exact validFraming_st hs f)
 have CV:Hid (∀ (L':List At) (w:World),St w0 X (L'++L) w->Calls Tryz.prog 162 #[.agg P.toArray] w fun e w'=>e=.returned (.bool b2)/\St w0 X (L'++L) w'):=Lib.hid (fun L' w hs=>by rw[hP];exact validP_st hs p (hE.app L') (hD.app L') he hd le ld hb2)
 have CD:Hid (∀ (L':List At) (w:World),St w0 X (L'++L) w->Calls Tryz.prog 131 #[.int .u8 k,.agg F.toArray,.bool b3] w fun e w'=>e=.returned (.tuple #[iv h,iv d])/\St w0 X (L'++L) w'):=Lib.hid (fun L' w hs=>by rw[hF,<-fv_eq];exact digests_st hs k f b3 hh hdd)
 have CS:Hid (b1=true->∀ (L':List At) (w:World),St w0 X (L'++L) w->Calls Tryz.prog 132 #[.int .u8 k,.agg xs.toArray,.agg F.toArray] w fun e w'=>e=.returned (iv s)/\St w0 X (L'++L) w'):=Lib.hid (fun hb L' w hs=>by rw[hF,<-fv_eq];exact start_st hs k (by rw[hb1];exact hb) hxs hst)
 rw[<-hP,fv_eq,<-hF];clear hP hF hxs hb0 hb1 hb2 hh hdd hst hq hr hk hkl hE hD he hd le
 cases b1 with
 | false =>
  obtain⟨rfl,rfl⟩:n=0/\e=2:=by have:=HR.out;simp at this;exact⟨this.1.symm,this.2.symm⟩
  clear hb3
  go_enter Tryz.func129,Tryz.ntmps129
  go_wp2_with (first|((with_reducible refine Se.iL 12 ?_);(refine Se.Ld hs rfl rfl (Cell.blk 1 rfl P0.out) ?_))|((with_reducible refine Se.iL 6 ?_);(refine Se.Al hs rfl (ZS.out) ?_;clear hs;rintro w g6-hs))|((with_reducible refine Se.isL (o:=⟨none,Op.store 217 _ _,_,_,_,_⟩) ?_);(refine Se.Sow 0 hs rfl rfl rfl rfl (XO.out) (by rw[XL.out];kernel_rfl) (by rw[XL.out,ZSL.out]) ?_;clear hs;intro w hs;try simp only[pS] at hs))|((with_reducible refine Se.iL 16 ?_);(refine Se.Ldw hs rfl rfl (Reads.blk 1 rfl) (by rw[FL.out];kernel_rfl) ?_))|((first|with_reducible refine Se.ab hs ?_|with_reducible refine Se.abc hs ?_);clear hs;(first|((fail_if_success (have _q:=g2));generalize w.heap.size=g2;intro w hs)|(generalize w.heap.size=g3;intro w hs)))|(go_at_call 130;refine Calls.mono (CO.out [_,_] _ hs) ?_;clear hs;rintro e w ⟨rfl,hs⟩)|(go_at_call 161;refine Calls.mono (CF.out [_,_,_] _ hs) ?_;clear hs;rintro e w ⟨rfl,hs⟩))
  go_ret2;exact⟨rfl,hs.drop.drop.drop⟩
 | true =>
  have hsl:=hsl rfl
  cases b2 with
  | false =>
   obtain⟨rfl,rfl⟩:n=0/\e=2:=by have:=HR.out;simp at this;exact⟨this.1.symm,this.2.symm⟩
   clear hb3
   go_enter Tryz.func129,Tryz.ntmps129
   go_wp2_with (first|((with_reducible refine Se.iL 12 ?_);(refine Se.Ld hs rfl rfl (Cell.blk 1 rfl P0.out) ?_))|((with_reducible refine Se.iL 6 ?_);(refine Se.Al hs rfl (ZS.out) ?_;clear hs;rintro w g6-hs))|((with_reducible refine Se.isL (o:=⟨none,Op.store 217 _ _,_,_,_,_⟩) ?_);(refine Se.Sow 0 hs rfl rfl rfl rfl (XO.out) (by rw[XL.out];kernel_rfl) (by rw[XL.out,ZSL.out]) ?_;clear hs;intro w hs;try simp only[pS] at hs))|((with_reducible refine Se.iL 16 ?_);(refine Se.Ldw hs rfl rfl (Reads.blk 1 rfl) (by rw[FL.out];kernel_rfl) ?_))|((with_reducible refine Se.iL 20 ?_);(refine Se.Ldw hs rfl rfl (Reads.blk 2 rfl) (by rw[PL.out];kernel_rfl) ?_))|((first|with_reducible refine Se.ab hs ?_|with_reducible refine Se.abc hs ?_);clear hs;(first|((fail_if_success (have _q:=g2));generalize w.heap.size=g2;intro w hs)|(generalize w.heap.size=g3;intro w hs)))|(go_at_call 130;refine Calls.mono (CO.out [_,_] _ hs) ?_;clear hs;rintro e w ⟨rfl,hs⟩)|(go_at_call 161;refine Calls.mono (CF.out [_,_,_] _ hs) ?_;clear hs;rintro e w ⟨rfl,hs⟩)|(go_at_call 162;refine Calls.mono (CV.out [_,_,_] _ hs) ?_;clear hs;rintro e w ⟨rfl,hs⟩))
   go_ret2;exact⟨rfl,hs.drop.drop.drop⟩
  | true =>
   cases b3 with
   | false =>
    obtain rfl:dn=0:=by simpa using hb3
    obtain⟨rfl,rfl⟩:n=q+h/\e=0:=by have:=HR.out;simp at this;exact⟨this.1.symm,this.2.symm⟩
    have e1:IntKind.i64.wrap ((q:Int)+(h:Int))=((q+h:Nat):Int):=by rw[IntWalk.i64_in _ (by omega)];omega
    clear hb3
    go_enter Tryz.func129,Tryz.ntmps129
    go_wp2_with (first|((with_reducible refine Se.iL 12 ?_);(refine Se.Ld hs rfl rfl (Cell.blk 1 rfl P0.out) ?_))|((with_reducible refine Se.iL 6 ?_);(refine Se.Al hs rfl (ZS.out) ?_;clear hs;rintro w g6-hs))|((with_reducible refine Se.isL (o:=⟨none,Op.store 217 _ _,_,_,_,_⟩) ?_);(refine Se.Sow 0 hs rfl rfl rfl rfl (XO.out) (by rw[XL.out];kernel_rfl) (by rw[XL.out,ZSL.out]) ?_;clear hs;intro w hs;try simp only[pS] at hs))|((with_reducible refine Se.iL 16 ?_);(refine Se.Ldw hs rfl rfl (Reads.blk 1 rfl) (by rw[FL.out];kernel_rfl) ?_))|((with_reducible refine Se.iL 20 ?_);(refine Se.Ldw hs rfl rfl (Reads.blk 2 rfl) (by rw[PL.out];kernel_rfl) ?_))|((with_reducible refine Se.iL 26 ?_);(refine Se.Ld hs rfl rfl (Cell.blk 2 rfl P0.out) ?_))|((with_reducible refine Se.iL 27 ?_);(refine Se.Ldw hs rfl rfl (Reads.blk 1 rfl) (by rw[FL.out];kernel_rfl) ?_))|((with_reducible refine Se.iL 29 ?_);(refine Se.Ld hs rfl rfl (Cell.blk 2 rfl P13.out) ?_))|((with_reducible refine Se.iL 36 ?_);(refine Se.Ld hs rfl rfl (Cell.blk 2 rfl P13.out) ?_))|((with_reducible refine Se.iL 40 ?_);(refine Se.Ld hs rfl rfl (Cell.blk 0 rfl X0.out) ?_))|((first|with_reducible refine Se.ab hs ?_|with_reducible refine Se.abc hs ?_);clear hs;(first|((fail_if_success (have _q:=g2));generalize w.heap.size=g2;intro w hs)|(generalize w.heap.size=g3;intro w hs)))|(go_at_call 130;refine Calls.mono (CO.out [_,_] _ hs) ?_;clear hs;rintro e w ⟨rfl,hs⟩)|(go_at_call 161;refine Calls.mono (CF.out [_,_,_] _ hs) ?_;clear hs;rintro e w ⟨rfl,hs⟩)|(go_at_call 162;refine Calls.mono (CV.out [_,_,_] _ hs) ?_;clear hs;rintro e w ⟨rfl,hs⟩)|(go_at_call 131;refine Calls.mono (CD.out [_,_,_] _ hs) ?_;clear hs;rintro e w ⟨rfl,hs⟩))
    go_ret2;exact⟨rfl,hs.drop.drop.drop⟩
   | true =>
    have hdp:0<dn:=by simpa using hb3
    obtain⟨rfl,rfl⟩:n=s+dn+d/\e=0:=by have:=HR.out;simp at this;exact⟨this.1.symm,this.2.symm⟩
    have e0:((dn:Int)==0)=false:=by simp;omega
    have e1:IntKind.i64.wrap ((s:Int)+(dn:Int))=((s+dn:Nat):Int):=by rw[IntWalk.i64_in _ (by omega)];omega
    have EW:Hid (IntKind.i64.wrap ((s:Int)+(dn:Int)+(d:Int))=((s+dn+d:Nat):Int)):=Lib.hid (by rw[IntWalk.i64_in _ (by omega)];omega)
    have CS1:=Lib.hid (CS.out rfl)
    clear hdp CS
    go_enter Tryz.func129,Tryz.ntmps129
    go_upto_region 7 with (first|((with_reducible refine Se.iL 12 ?_);(refine Se.Ld hs rfl rfl (Cell.blk 1 rfl P0.out) ?_))|((with_reducible refine Se.iL 6 ?_);(refine Se.Al hs rfl (ZS.out) ?_;clear hs;rintro w g6-hs))|((with_reducible refine Se.isL (o:=⟨none,Op.store 217 _ _,_,_,_,_⟩) ?_);(refine Se.Sow 0 hs rfl rfl rfl rfl (XO.out) (by rw[XL.out];kernel_rfl) (by rw[XL.out,ZSL.out]) ?_;clear hs;intro w hs;try simp only[pS] at hs))|((with_reducible refine Se.iL 16 ?_);(refine Se.Ldw hs rfl rfl (Reads.blk 1 rfl) (by rw[FL.out];kernel_rfl) ?_))|((with_reducible refine Se.iL 20 ?_);(refine Se.Ldw hs rfl rfl (Reads.blk 2 rfl) (by rw[PL.out];kernel_rfl) ?_))|((with_reducible refine Se.iL 26 ?_);(refine Se.Ld hs rfl rfl (Cell.blk 2 rfl P0.out) ?_))|((with_reducible refine Se.iL 27 ?_);(refine Se.Ldw hs rfl rfl (Reads.blk 1 rfl) (by rw[FL.out];kernel_rfl) ?_))|((with_reducible refine Se.iL 29 ?_);(refine Se.Ld hs rfl rfl (Cell.blk 2 rfl P13.out) ?_))|((with_reducible refine Se.iL 36 ?_);(refine Se.Ld hs rfl rfl (Cell.blk 2 rfl P13.out) ?_))|((first|with_reducible refine Se.ab hs ?_|with_reducible refine Se.abc hs ?_);clear hs;(first|((fail_if_success (have _q:=g2));generalize w.heap.size=g2;intro w hs)|(generalize w.heap.size=g3;intro w hs)))|(go_at_call 130;refine Calls.mono (CO.out [_,_] _ hs) ?_;clear hs;rintro e w ⟨rfl,hs⟩)|(go_at_call 161;refine Calls.mono (CF.out [_,_,_] _ hs) ?_;clear hs;rintro e w ⟨rfl,hs⟩)|(go_at_call 162;refine Calls.mono (CV.out [_,_,_] _ hs) ?_;clear hs;rintro e w ⟨rfl,hs⟩)|(go_at_call 131;refine Calls.mono (CD.out [_,_,_] _ hs) ?_;clear hs;rintro e w ⟨rfl,hs⟩))
    refine Ch.region' 13 (fun wx=>Blk wx g2 P 65/\Blk wx g6 xs 217/\Blk wx g3 F 54) (fun|4=>true|_=>false) (by kernel_rfl) (by decide +kernel) (⟨hs.drew.hold (.blk g2 65 P) (by simp),hs.drew.hold (.blk g6 217 xs) (by simp),hs.drew.hold (.blk g3 54 F) (by simp)⟩) ?_;replace hs:=hs.drew;generalize w.drew=w at hs ⊢;change Ch.CW _ _ _ _ _ [0,1,2,3,4,5,6,7,8,9,10,11,12] _ _
    iterate 4 ((first|refine Ch.pA ?_|refine Ch.pE (hv:=fun wx hS=>Se.xL (hc:=(by simpa only[hS.1.cell] using P0.out))) (h:=?_)|refine Ch.pE (hv:=fun wx hS=>Se.xR (hr:=(Li.Rd.of_blk hS.2.1)) (hi:=(by rw[XL.out] <;> kernel_rfl))) (h:=?_)|refine Ch.pE (hv:=fun wx hS=>Se.xR (hr:=(Li.Rd.of_blk hS.2.2)) (hi:=(by rw[FL.out] <;> kernel_rfl))) (h:=?_));(try simp only[pU]))
    refine Ch.cA (f:=132) (args:=#[.int .u8 k,.agg xs.toArray,.agg F.toArray]) (CS1.out [_,_,_] _ hs) ?_;clear hs;rintro e w⟨rfl,hs⟩;refine⟨_,rfl,⟨hs.hold (.blk g2 65 P) (by simp),hs.hold (.blk g6 217 xs) (by simp),hs.hold (.blk g3 54 F) (by simp)⟩,?_⟩;(try simp only[pU])
    iterate 8 ((first|refine Ch.pA ?_|refine Ch.pE (hv:=fun wx hS=>Se.xL (hc:=(by simpa only[hS.1.cell] using P13.out))) (h:=?_));(try simp only[pU]))
    refine Ch.done ?_
    try simp only[List.drop_succ_cons,List.drop_zero]
    go_wp2_with fail
    go_ret2;refine⟨?_,hs.drop.drop.drop⟩
    show Ending.returned (.tuple #[.int .i64 (IntKind.i64.wrap ((s:Int)+(dn:Int)+(d:Int))),.int .i64 0])=_
    rw[EW.out]
    rfl
end Pd
end Go.Proofs.YtjnllcnknjlmmaaGreat
