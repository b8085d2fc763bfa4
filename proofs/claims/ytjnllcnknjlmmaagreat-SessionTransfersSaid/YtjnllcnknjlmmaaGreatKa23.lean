/- Layer 41. -/
import Derived.SizedLaws
import Derived.Test.YtjnllcnknjlmmaaGreatKa22
set_option linter.unusedSimpArgs false
set_option linter.unusedVariables false
set_option maxRecDepth 100000
set_option maxHeartbeats 4000000
namespace Go.Proofs.YtjnllcnknjlmmaaGreat
open Go Go.RowKit
namespace Sn
open Se (St At Reads)
open Su (u16)
open Li (v8)
variable {w0 w:World} {X:List Nat} {L:List At}
attribute [local irreducible] Calls
theorem ptr_i:(Tryz.prog.info? 83).map (fun i=>(i.zero,i.size))=some (some (.pointer none),1):=by kernel_rfl
theorem zSes:(Tryz.prog.info? 112).bind (fun i=>i.zero.map (·.cells.toList))=some zsc:=by kernel_rfl
theorem is_nil(hs:St w0 X L w){v:Value}(hv:NilV L v):Calls Tryz.prog 41 #[v,.int .i64 0,.int .i64 0,.slice none 0 0] w fun e' w'=>e'=.returned (.bool true)/\St w0 X L w':=by
 have h:=is_st (a:=0) (b:=0) (zs:=[]) hs (fun w hs=>state_nil hs hv) (fun w hs=>(outst_nil hs hv).mono (by
  rintro e w' ⟨h1,h2⟩;exact⟨none,none,0,h1,h2.nil_own 1 none⟩)) 0 0 [] (B:=none) (gb:=0) (ob:=0) (m:=0) (c:=0) rfl Reads.nil (fun h=>absurd h (Nat.lt_irrefl _)) (by decide)
 exact h
theorem nil_law(hs:St w0 X L w)(A:Option Addr)(n ca:Nat)(id:Int) :
  Calls Tryz.prog 13 #[.slice A n ca,.int .u16 id] w fun e' w'=>e'=.returned (.bool true)/\St w0 X L w':=by
 obtain⟨E6,hE6⟩:∃ E,E=kE16.map v8:=⟨_,rfl⟩
 have B6:Hid (∀ w:World,(Instr.build 98 #[]).run Tryz.prog w=.ok (.agg E6.toArray) w):=Lib.hid (by rw[hE6];exact bd_e16)
 have E6L:=Lib.hid (show E6.length=16 by rw[hE6];rfl)
 have CK:Hid (∀ (w:World),St w0 X L w->Calls Tryz.prog 35 #[] w fun e' w'=>e'=.returned (.bool true)/\St w0 X L w'):=Lib.hid (fun w hs=>known_st hs)
 clear hE6
 go_enter Tryz.func13,Tryz.ntmps13
 go_wp2_with (first|((with_reducible refine Se.iL 6 ?_);(refine Se.Al hs rfl (zSes) ?_;clear hs;rintro w g6-hs))|((with_reducible refine Se.iL 12 ?_);(refine Se.toL rfl (Se.bsv (o:=⟨some 12,_,_,_,_,_⟩) hs rfl Tryz.underlying113 ptr_i rfl ([.pointer none,.pointer (some ⟨g6,0,none⟩)]) (by rfl) (by rfl) (by decide) (by decide) (by simp[Value.oneCell']) ?_);clear hs;rintro w g12-hs)))
 go_loopg [8] 2 (fun gh s8 wr=>∃ (i:Nat),gh=2-i/\i<=2/\s8=.int .i64 (i:Int)/\St w0 X (.blk g12 83 [.pointer none,.pointer (some ⟨g6,0,none⟩)]::.blk g6 112 zsc::L) wr)
 case atStart=>exact⟨0,rfl,by omega,rfl,hs⟩
 case round =>
  clear hs
  rename World=>w
  obtain⟨i,rfl,hi,rfl,hs⟩:=hrel
  by_cases hlt:i<2
  ·have hlt':(i:Int)<2:=by omega
   obtain⟨v,hv,hnv⟩:∃ v,[Value.pointer none,.pointer (some ⟨g6,0,none⟩)][i]? = some v/\(v=.pointer none\/v=.pointer (some ⟨g6,0,none⟩)):=by
    have:i=0\/i=1:=by omega
    rcases this with rfl|rfl
    ·exact⟨_,rfl,.inl rfl⟩
    ·exact⟨_,rfl,.inr rfl⟩
   have HV:=Lib.hid hv
   have NV:Hid (∀ M:List At,At.blk g6 112 zsc∈M->NilV M v):=Lib.hid (fun M h=>by
    rcases hnv with rfl|rfl
    ·exact .inl rfl
    ·exact .inr ⟨g6,rfl,h⟩)
   clear hv hnv
   go_wp2_with (first|((with_reducible refine Se.iL 23 ?_);(refine Se.Ld hs rfl rfl ((Reads.blk 0 rfl).cell0 i HV.out) ?_))|((with_reducible refine Se.iL 39 ?_);(refine Se.Ld hs rfl rfl ((Reads.blk 0 rfl).cell0 i HV.out) ?_))|((with_reducible refine Se.iL 50 ?_);(refine Se.Ld hs rfl rfl ((Reads.blk 0 rfl).cell0 i HV.out) ?_))|((with_reducible refine Se.iL 59 ?_);(refine Se.Ld hs rfl rfl ((Reads.blk 0 rfl).cell0 i HV.out) ?_))|((with_reducible refine Se.iL 68 ?_);(refine Se.Ld hs rfl rfl ((Reads.blk 0 rfl).cell0 i HV.out) ?_))|((with_reducible refine Se.iL 76 ?_);(refine Se.Ld hs rfl rfl ((Reads.blk 0 rfl).cell0 i HV.out) ?_))|((with_reducible refine Se.iL 41 ?_);(refine Se.Bd rfl rfl (B6.out _) ?_))|(go_at_call 37;refine Calls.mono (feed_nil hs (NV.out _ (by simp)) A n ca) ?_;clear hs;rintro e w ⟨rfl,hs⟩)|(go_at_call 46;refine Calls.mono (reply_nil hs (NV.out _ (by simp)) id E6 E6L.out A n ca) ?_;clear hs;rintro e w ⟨rfl,hs⟩)|(go_at_call 47;refine Calls.mono (end_nil hs (NV.out _ (by simp)) id) ?_;clear hs;rintro e w ⟨rfl,hs⟩)|(go_at_call 39;refine Calls.mono (output_nil hs (NV.out _ (by simp))) ?_;clear hs;rintro e w ⟨rfl,hs⟩)|(go_at_call 41;refine Calls.mono (is_nil hs (NV.out _ (by simp))) ?_;clear hs;rintro e w ⟨rfl,hs⟩)|(go_at_call 50;refine Calls.mono (copy_nil hs (NV.out _ (by simp))) ?_;clear hs;rintro e w ⟨rfl,hs⟩))
   go_roundg (2-(i+1))
   case measure=>omega
   case rel=>exact⟨i+1,rfl,by omega,by go_num,hs⟩
  ·obtain rfl:i=2:=by omega
   replace hs:=hs.drop.drop
   go_wp2_with (first|(go_at_call 35;refine Calls.mono (CK.out _ hs) ?_;clear hs;rintro e w ⟨rfl,hs⟩))
   go_ret;exact⟨rfl,hs⟩
theorem nil_any(A:Option Addr)(n ca:Nat)(id:Int)(W:World):Calls Tryz.prog 13 #[.slice A n ca,.int .u16 id] W fun e w'=>e=.returned (.bool true)/\Below W.heap.size W w' :=
 (nil_law (L:=[]) (St.start W (by simp) rfl) A n ca id).mono fun e w' h=>⟨h.1,h.2.below⟩
end Sn
end Go.Proofs.YtjnllcnknjlmmaaGreat
namespace Go.Proofs.YtjnllcnknjlmmaaGreat
open Go Go.ChangeShapes Go.WideShapes Go.ChangeAt Go.RowKit
namespace Sn
open Li (v8 Rd)
open Bv (n16)
variable {W:World} {base:Nat} {v:Value}
theorem open_u16(hv:Value.okWide Tryz.prog W .any base 40 v):∃ x:BitVec 16,v=.int .u16 (n16 x):=by
 have hu:=Tryz.underlying40
 obtain⟨z,rfl⟩:=okWide_int hu hv
 have h:IntKind.u16=IntKind.u16/\IntKind.u16.has z:=by
  unfold Value.okWide at hv;rw[hu] at hv;exact hv
 replace h:=h.2
 simp only[IntKind.has,IntKind.min,IntKind.max,IntKind.signed,IntKind.bits] at h;exact⟨BitVec.ofInt 16 z,by unfold n16;rw[BitVec.toNat_ofInt];simp at h ⊢;omega⟩
variable {H:Type} {enc:TypeId × Value->H} {r:Reach} {d:DataW H} {p:List MemPlace}
theorem open_bytes(hv:Value.okWide Tryz.prog W r base 24 v)(h:DataW.Trod enc Tryz.prog W 0 (fun _=>true) true 24 v d p):∃ A n c,∃ bs:List (BitVec 8),v=.slice A n c/\n=bs.length/\Rd W A (bs.map v8)/\n<=c:=by
 obtain⟨A,n,c,rfl⟩:=okWide_slice Tryz.underlying24 hv
 obtain⟨fuel,hf⟩:=h
 rcases open_ints Tryz.underlying24 Tryz.underlying5 (by kernel_rfl) hf with ⟨hcs,_⟩|⟨x,l,c',zs,hcs,_,hl,hm,hz,_,hcell,hwz⟩
 ·simp[Value.cells] at hcs
  obtain⟨rfl,rfl,rfl⟩:=hcs
  exact⟨none,0,0,[],rfl,rfl,.inl rfl,Nat.le_refl _⟩
 ·simp[Value.cells] at hcs
  obtain⟨rfl,rfl,rfl⟩:=hcs
  simp only[if_true] at hz;exact⟨some x,n,c,(zs.take n).map (BitVec.ofInt 8),rfl,by simp;omega,Lift.rd_ints (by omega) hcell hwz,hl⟩
end Sn
end Go.Proofs.YtjnllcnknjlmmaaGreat
