/- Contracts and plain facts for the laws of layer 41. No condition. -/
import Derived.Test.YtjnllcnknjlmmaaGreatKa06
set_option linter.unusedSimpArgs false
set_option linter.unusedVariables false
set_option maxRecDepth 100000
set_option maxHeartbeats 4000000
namespace Go.Proofs.YtjnllcnknjlmmaaGreat
open Go Go.RowKit
namespace Pd
open Se (St At Reads Cell)
variable {w0 w:World} {X:List Nat} {L:List At}
attribute [local irreducible] Calls
def flN(b0 b1 b2 b3:Bool)(i:Nat):Nat:=(if 0<i/\b0=true then 1 else 0)+(if 1<i/\b1=true then 2 else 0)+(if 2<i/\b2=true then 4 else 0)+(if 3<i/\b3=true then 8 else 0)
theorem flI:(Tryz.prog.info? 243).map (fun i=>(i.zero,i.size))=some (some (.agg #[.bool false,.int .u8 0]),2):=by kernel_rfl
theorem flZ:(Tryz.prog.info? 243).bind (fun i=>i.zero.map (·.cells.toList))=some [.bool false,.int .u8 0]:=by kernel_rfl
def flv(b0 b1 b2 b3:Bool):List Value:=[.bool b0,.int .u8 1,.bool b1,.int .u8 2,.bool b2,.int .u8 4,.bool b3,.int .u8 8]
theorem fl_or(b0 b1 b2 b3:Bool):(b0=true->bits .or .u8 (flN b0 b1 b2 b3 0:Nat) 1=(flN b0 b1 b2 b3 1:Nat))/\(b1=true->bits .or .u8 (flN b0 b1 b2 b3 1:Nat) 2=(flN b0 b1 b2 b3 2:Nat))/\(b2=true->bits .or .u8 (flN b0 b1 b2 b3 2:Nat) 4=(flN b0 b1 b2 b3 3:Nat))/\(b3=true->bits .or .u8 (flN b0 b1 b2 b3 3:Nat) 8=(flN b0 b1 b2 b3 4:Nat)):=by
 cases b0 <;> cases b1 <;> cases b2 <;> cases b3 <;> decide
theorem fl_no(b0 b1 b2 b3:Bool):(b0=false->flN b0 b1 b2 b3 1=flN b0 b1 b2 b3 0)/\(b1=false->flN b0 b1 b2 b3 2=flN b0 b1 b2 b3 1)/\(b2=false->flN b0 b1 b2 b3 3=flN b0 b1 b2 b3 2)/\(b3=false->flN b0 b1 b2 b3 4=flN b0 b1 b2 b3 3):=by
 cases b0 <;> cases b1 <;> cases b2 <;> cases b3 <;> decide
theorem flags_st(hs:St w0 X L w)(p:PDU)(h d:Nat){EA DA:Option Addr}{en ec dn dc:Nat}{n:Nat}(hn:flagsN p h d=n) :
  Calls Tryz.prog 134 #[.agg (pc p.h EA en ec DA dn dc).toArray,iv h,iv d] w fun e w'=>e=.returned (.int .u8 (n:Int))/\St w0 X L w':=by
 obtain⟨P,hP⟩:∃ P,P=pc p.h EA en ec DA dn dc:=⟨_,rfl⟩
 obtain⟨b0,hb0⟩:∃ b,decide (0<h)=b:=⟨_,rfl⟩
 obtain⟨b1,hb1⟩:∃ b,decide (0<d)=b:=⟨_,rfl⟩
 obtain⟨b2,hb2⟩:∃ b,p.h.la=b:=⟨_,rfl⟩
 obtain⟨b3,hb3⟩:∃ b,p.h.su=b:=⟨_,rfl⟩
 have HN:Hid (flN b0 b1 b2 b3 4=n):=Lib.hid (by rw[<-hn,<-hb0,<-hb1,<-hb2,<-hb3];unfold flN flagsN;simp)
 have P1:=Lib.hid (show P[1]? = some (.bool b2) by rw[hP,<-hb2];rfl)
 have P2:=Lib.hid (show P[2]? = some (.bool b3) by rw[hP,<-hb3];rfl)
 have O:=Lib.hid (fl_or b0 b1 b2 b3)
 have NO:=Lib.hid (fl_no b0 b1 b2 b3)
 have F0:Hid (flN b0 b1 b2 b3 0=0):=Lib.hid (by unfold flN;simp)
 have FI:=Lib.hid flI
 have FZ:=Lib.hid flZ
 obtain⟨g,hg⟩:∃ g:Nat->Nat,g=flN b0 b1 b2 b3:=⟨_,rfl⟩
 rw[<-hP];rw[<-hg] at HN O NO F0;clear hn hP hb2 hb3 hg
 go_enter Tryz.func134,Tryz.ntmps134
 go_wp2_with (first|((with_reducible refine Se.iL 16 ?_);(refine Se.Ld hs rfl rfl (Cell.blk 0 rfl P1.out) ?_))|((with_reducible refine Se.iL 19 ?_);(refine Se.Ld hs rfl rfl (Cell.blk 0 rfl P2.out) ?_))|((with_reducible refine Se.iL 11 ?_);(refine Se.Bd rfl rfl (rfl) ?_))|((with_reducible refine Se.iL 14 ?_);(refine Se.Bd rfl rfl (rfl) ?_))|((with_reducible refine Se.iL 17 ?_);(refine Se.Bd rfl rfl (rfl) ?_))|((with_reducible refine Se.iL 20 ?_);(refine Se.Bd rfl rfl (rfl) ?_))|((first|with_reducible refine Se.ab hs ?_|with_reducible refine Se.abc hs ?_);clear hs;(first|((fail_if_success (have _q:=g3));generalize w.heap.size=g3;intro w hs)|(generalize w.heap.size=g21;intro w hs))))
 go_loopg [6,23] 4 (fun gh s6 s23 wr=>∃ i:Nat,gh=4-i/\i<=4/\s23=.int .i64 i/\s6=.int .u8 (g i:Nat)/\St w0 X (.blk g21 243 (flv b0 b1 b2 b3)::.blk g3 65 P::L) wr)
 case atStart=>exact⟨0,rfl,by omega,rfl,by rw[F0.out];rfl,hs⟩
 case round =>
  clear hs
  rename World=>w
  obtain⟨i,rfl,hi,rfl,rfl,hs⟩:=hrel
  clear hb0 hb1 F0
  have key:i=0\/i=1\/i=2\/i=3\/i=4:=by omega
  obtain⟨V,hV⟩:∃ V,V=flv b0 b1 b2 b3:=⟨_,rfl⟩
  have V0:=Lib.hid (show(V.drop 0).take 2=[.bool b0,.int .u8 1] by rw[hV];rfl)
  have V1:=Lib.hid (show(V.drop 2).take 2=[.bool b1,.int .u8 2] by rw[hV];rfl)
  have V2:=Lib.hid (show(V.drop 4).take 2=[.bool b2,.int .u8 4] by rw[hV];rfl)
  have V3:=Lib.hid (show(V.drop 6).take 2=[.bool b3,.int .u8 8] by rw[hV];rfl)
  have VL:=Lib.hid (show V.length=8 by rw[hV];rfl)
  have HV:=Lib.hid hV
  rw[<-hV] at hs;clear hV hi
  rcases key with rfl|rfl|rfl|rfl|rfl
  ·cases b0 with
   | true =>
    have e:bits .or .u8 (g 0:Nat) 1=(g 1:Nat):=O.out.1 rfl
    clear O NO
    go_wp2_with (first|((with_reducible refine Se.iL 8 ?_);(refine Se.Al hs rfl (FZ.out) ?_;clear hs;rintro w g8-hs))|((with_reducible refine Se.iN ?_);(refine Se.Sow 0 hs rfl rfl rfl rfl (by simp[Value.oneCell']) (by kernel_rfl) (rfl) ?_;clear hs;intro w hs;try simp only[pS] at hs))|((with_reducible refine Se.iL 28 ?_);(refine Se.Ld hs rfl rfl (Cell.blk 0 rfl rfl) ?_))|((with_reducible refine Se.iL 31 ?_);(refine Se.Ld hs rfl rfl (Cell.blk 0 rfl rfl) ?_))|(with_reducible refine Se.isL (o:=⟨some 26,_,_,_,_,_⟩) ?_;refine Se.toL rfl (Se.lda (o:=⟨some 26,_,_,_,_,_⟩) (n:=2) hs rfl rfl ((Reads.blk 0 rfl).at 0) (by kernel_rfl) (by kernel_rfl) (by rw[List.length_drop,VL.out];decide) ?_);rw[V0.out]))
    go_roundg 3
    case measure=>omega
    case rel=>exact⟨1,rfl,by omega,by go_num,rfl,by rw[<-HV.out];exact hs.drop⟩
   | false =>
    have e:=Lib.hid (NO.out.1 rfl)
    clear O NO
    go_wp2_with (first|((with_reducible refine Se.iL 8 ?_);(refine Se.Al hs rfl (FZ.out) ?_;clear hs;rintro w g8-hs))|((with_reducible refine Se.iN ?_);(refine Se.Sow 0 hs rfl rfl rfl rfl (by simp[Value.oneCell']) (by kernel_rfl) (rfl) ?_;clear hs;intro w hs;try simp only[pS] at hs))|((with_reducible refine Se.iL 28 ?_);(refine Se.Ld hs rfl rfl (Cell.blk 0 rfl rfl) ?_))|(with_reducible refine Se.isL (o:=⟨some 26,_,_,_,_,_⟩) ?_;refine Se.toL rfl (Se.lda (o:=⟨some 26,_,_,_,_,_⟩) (n:=2) hs rfl rfl ((Reads.blk 0 rfl).at 0) (by kernel_rfl) (by kernel_rfl) (by rw[List.length_drop,VL.out];decide) ?_);rw[V0.out]))
    go_roundg 3
    case measure=>omega
    case rel=>exact⟨1,rfl,by omega,by go_num,by rw[e.out],by rw[<-HV.out];exact hs.drop⟩
  ·cases b1 with
   | true =>
    have e:bits .or .u8 (g 1:Nat) 2=(g 2:Nat):=O.out.2.1 rfl
    clear O NO
    go_wp2_with (first|((with_reducible refine Se.iL 8 ?_);(refine Se.Al hs rfl (FZ.out) ?_;clear hs;rintro w g8-hs))|((with_reducible refine Se.iN ?_);(refine Se.Sow 0 hs rfl rfl rfl rfl (by simp[Value.oneCell']) (by kernel_rfl) (rfl) ?_;clear hs;intro w hs;try simp only[pS] at hs))|((with_reducible refine Se.iL 28 ?_);(refine Se.Ld hs rfl rfl (Cell.blk 0 rfl rfl) ?_))|((with_reducible refine Se.iL 31 ?_);(refine Se.Ld hs rfl rfl (Cell.blk 0 rfl rfl) ?_))|(with_reducible refine Se.isL (o:=⟨some 26,_,_,_,_,_⟩) ?_;refine Se.toL rfl (Se.lda (o:=⟨some 26,_,_,_,_,_⟩) (n:=2) hs rfl rfl ((Reads.blk 0 rfl).at 2) (by kernel_rfl) (by kernel_rfl) (by rw[List.length_drop,VL.out];decide) ?_);rw[V1.out]))
    go_roundg 2
    case measure=>omega
    case rel=>exact⟨2,rfl,by omega,by go_num,rfl,by rw[<-HV.out];exact hs.drop⟩
   | false =>
    have e:=Lib.hid (NO.out.2.1 rfl)
    clear O NO
    go_wp2_with (first|((with_reducible refine Se.iL 8 ?_);(refine Se.Al hs rfl (FZ.out) ?_;clear hs;rintro w g8-hs))|((with_reducible refine Se.iN ?_);(refine Se.Sow 0 hs rfl rfl rfl rfl (by simp[Value.oneCell']) (by kernel_rfl) (rfl) ?_;clear hs;intro w hs;try simp only[pS] at hs))|((with_reducible refine Se.iL 28 ?_);(refine Se.Ld hs rfl rfl (Cell.blk 0 rfl rfl) ?_))|(with_reducible refine Se.isL (o:=⟨some 26,_,_,_,_,_⟩) ?_;refine Se.toL rfl (Se.lda (o:=⟨some 26,_,_,_,_,_⟩) (n:=2) hs rfl rfl ((Reads.blk 0 rfl).at 2) (by kernel_rfl) (by kernel_rfl) (by rw[List.length_drop,VL.out];decide) ?_);rw[V1.out]))
    go_roundg 2
    case measure=>omega
    case rel=>exact⟨2,rfl,by omega,by go_num,by rw[e.out],by rw[<-HV.out];exact hs.drop⟩
  ·cases b2 with
   | true =>
    have e:bits .or .u8 (g 2:Nat) 4=(g 3:Nat):=O.out.2.2.1 rfl
    clear O NO
    go_wp2_with (first|((with_reducible refine Se.iL 8 ?_);(refine Se.Al hs rfl (FZ.out) ?_;clear hs;rintro w g8-hs))|((with_reducible refine Se.iN ?_);(refine Se.Sow 0 hs rfl rfl rfl rfl (by simp[Value.oneCell']) (by kernel_rfl) (rfl) ?_;clear hs;intro w hs;try simp only[pS] at hs))|((with_reducible refine Se.iL 28 ?_);(refine Se.Ld hs rfl rfl (Cell.blk 0 rfl rfl) ?_))|((with_reducible refine Se.iL 31 ?_);(refine Se.Ld hs rfl rfl (Cell.blk 0 rfl rfl) ?_))|(with_reducible refine Se.isL (o:=⟨some 26,_,_,_,_,_⟩) ?_;refine Se.toL rfl (Se.lda (o:=⟨some 26,_,_,_,_,_⟩) (n:=2) hs rfl rfl ((Reads.blk 0 rfl).at 4) (by kernel_rfl) (by kernel_rfl) (by rw[List.length_drop,VL.out];decide) ?_);rw[V2.out]))
    go_roundg 1
    case measure=>omega
    case rel=>exact⟨3,rfl,by omega,by go_num,rfl,by rw[<-HV.out];exact hs.drop⟩
   | false =>
    have e:=Lib.hid (NO.out.2.2.1 rfl)
    clear O NO
    go_wp2_with (first|((with_reducible refine Se.iL 8 ?_);(refine Se.Al hs rfl (FZ.out) ?_;clear hs;rintro w g8-hs))|((with_reducible refine Se.iN ?_);(refine Se.Sow 0 hs rfl rfl rfl rfl (by simp[Value.oneCell']) (by kernel_rfl) (rfl) ?_;clear hs;intro w hs;try simp only[pS] at hs))|((with_reducible refine Se.iL 28 ?_);(refine Se.Ld hs rfl rfl (Cell.blk 0 rfl rfl) ?_))|(with_reducible refine Se.isL (o:=⟨some 26,_,_,_,_,_⟩) ?_;refine Se.toL rfl (Se.lda (o:=⟨some 26,_,_,_,_,_⟩) (n:=2) hs rfl rfl ((Reads.blk 0 rfl).at 4) (by kernel_rfl) (by kernel_rfl) (by rw[List.length_drop,VL.out];decide) ?_);rw[V2.out]))
    go_roundg 1
    case measure=>omega
    case rel=>exact⟨3,rfl,by omega,by go_num,by rw[e.out],by rw[<-HV.out];exact hs.drop⟩
  ·cases b3 with
   | true =>
    have e:bits .or .u8 (g 3:Nat) 8=(g 4:Nat):=O.out.2.2.2 rfl
    clear O NO
    go_wp2_with (first|((with_reducible refine Se.iL 8 ?_);(refine Se.Al hs rfl (FZ.out) ?_;clear hs;rintro w g8-hs))|((with_reducible refine Se.iN ?_);(refine Se.Sow 0 hs rfl rfl rfl rfl (by simp[Value.oneCell']) (by kernel_rfl) (rfl) ?_;clear hs;intro w hs;try simp only[pS] at hs))|((with_reducible refine Se.iL 28 ?_);(refine Se.Ld hs rfl rfl (Cell.blk 0 rfl rfl) ?_))|((with_reducible refine Se.iL 31 ?_);(refine Se.Ld hs rfl rfl (Cell.blk 0 rfl rfl) ?_))|(with_reducible refine Se.isL (o:=⟨some 26,_,_,_,_,_⟩) ?_;refine Se.toL rfl (Se.lda (o:=⟨some 26,_,_,_,_,_⟩) (n:=2) hs rfl rfl ((Reads.blk 0 rfl).at 6) (by kernel_rfl) (by kernel_rfl) (by rw[List.length_drop,VL.out];decide) ?_);rw[V3.out]))
    go_roundg 0
    case measure=>omega
    case rel=>exact⟨4,rfl,by omega,by go_num,rfl,by rw[<-HV.out];exact hs.drop⟩
   | false =>
    have e:=Lib.hid (NO.out.2.2.2 rfl)
    clear O NO
    go_wp2_with (first|((with_reducible refine Se.iL 8 ?_);(refine Se.Al hs rfl (FZ.out) ?_;clear hs;rintro w g8-hs))|((with_reducible refine Se.iN ?_);(refine Se.Sow 0 hs rfl rfl rfl rfl (by simp[Value.oneCell']) (by kernel_rfl) (rfl) ?_;clear hs;intro w hs;try simp only[pS] at hs))|((with_reducible refine Se.iL 28 ?_);(refine Se.Ld hs rfl rfl (Cell.blk 0 rfl rfl) ?_))|(with_reducible refine Se.isL (o:=⟨some 26,_,_,_,_,_⟩) ?_;refine Se.toL rfl (Se.lda (o:=⟨some 26,_,_,_,_,_⟩) (n:=2) hs rfl rfl ((Reads.blk 0 rfl).at 6) (by kernel_rfl) (by kernel_rfl) (by rw[List.length_drop,VL.out];decide) ?_);rw[V3.out]))
    go_roundg 0
    case measure=>omega
    case rel=>exact⟨4,rfl,by omega,by go_num,by rw[e.out],by rw[<-HV.out];exact hs.drop⟩
  ·clear O NO
   go_wp2_with fail
   go_ret;rw[HN.out];exact⟨rfl,hs.drop.drop⟩
end Pd
end Go.Proofs.YtjnllcnknjlmmaaGreat
namespace Go.Proofs.YtjnllcnknjlmmaaGreat
open Go Go.RowKit
namespace Pd
open Se (St At Reads)
open Li (v8 Rd)
variable {w0 w:World} {X:List Nat} {L:List At}
attribute [local irreducible] Calls
def encE(p:PDU)(f:Fm):List (BitVec 8) × Nat:=if framed f=true then if valid p=true then (enc p f,0) else ([],2) else ([],2)
theorem special_eq(p:PDU)(hv:valid p=true):special p=(match p.h.k.toNat with|0|1=>wInit p.h++zs 112|2|3=>wEnd p.h++zs 10|4|5=>p.en|9=>wReady p.h++zs 4|_=>wData p.h p.da.length++zs 4):=by
 unfold special wInit wEnd wReady wData
 split <;> simp_all
theorem special_len(p:PDU)(hv:valid p=true):8+(special p).length=hdr p.h.k.toNat:=by
 rw[valid_eq] at hv;unfold pv at hv
 dsimp only at hv
 simp only[Bool.and_eq_true,decide_eq_true_eq,Bool.not_eq_true',decide_eq_false_iff_not] at hv
 obtain⟨⟨⟨⟨⟨h1,h2⟩,_⟩,_⟩,_⟩,_⟩:=hv
 unfold special
 have h2:p.en.length=entl p.h.k.toNat:=by omega
 rcases kinds_cases p.h.k.toNat with h|h
 ·rcases h with h|h|h|h|h|h|h|h|h <;> rw[h] at h2 ⊢ <;> simp[hdr,numL_length,entl] at h2 ⊢ <;> omega
 ·exact absurd (hdr_none _ h) h1
theorem rd1{w:World}{A:Option Addr}{xs:List Value}(h:Rd w A xs):St w [] [.rd A xs] w:=St.start w (by intro a ha;rw[List.mem_singleton.1 ha];exact h) (by simp[Se.ownedL,Se.At.owned])
theorem wri_fn(p:PDU)(hv:valid p=true):∃ n,wriF p.h.k.toNat=fnv n/\(n=193\/n=197\/n=199\/n=201\/n=204)/\∀ {w:World} {EA DA:Option Addr} {en ec dn dc:Nat},Rd w EA (p.en.map v8)->en=p.en.length->dn=p.da.length->dn<=70368744177664->Calls Tryz.prog n #[.agg (pc p.h EA en ec DA dn dc).toArray] w fun e w'=>∃ r B c,e=.returned (.slice B (special p).length c)/\St w [] [.own 1 r B (special p).length c ((special p).map v8)] w':=by
 have hl:=special_len p hv
 have he:=special_eq p hv
 have hk:hdr p.h.k.toNat≠0:=by omega
 rcases kinds_cases p.h.k.toNat with h|h
 ·have key:(p.h.k.toNat=0\/p.h.k.toNat=1)\/(p.h.k.toNat=2\/p.h.k.toNat=3)\/(p.h.k.toNat=4\/p.h.k.toNat=5)\/(p.h.k.toNat=6\/p.h.k.toNat=7)\/p.h.k.toNat=9:=by omega
  rcases key with h|h|h|h|h
  ·refine⟨_,?_,.inl rfl,fun {w EA DA en ec dn dc} hr h1 h2 h3=>?_⟩
   ·rcases h with h|h <;> rw[h] <;> rfl
   ·have e:special p=wInit p.h++zs 112:=by rw[he];rcases h with h|h <;> rw[h] <;> rfl
    have e2:(special p).length=120:=by rcases h with h|h <;> rw[h] at hl <;> simp[hdr] at hl <;> omega
    rw[e2,e];exact writeInit_st (St.start w (by simp) rfl)
  ·refine⟨_,?_,.inr (.inl rfl),fun {w EA DA en ec dn dc} hr h1 h2 h3=>?_⟩
   ·rcases h with h|h <;> rw[h] <;> rfl
   ·have e:special p=wEnd p.h++zs 10:=by rw[he];rcases h with h|h <;> rw[h] <;> rfl
    have e2:(special p).length=16:=by rcases h with h|h <;> rw[h] at hl <;> simp[hdr] at hl <;> omega
    rw[e2,e];exact writeEnd_st (St.start w (by simp) rfl)
  ·refine⟨_,?_,.inr (.inr (.inl rfl)),fun {w EA DA en ec dn dc} hr h1 h2 h3=>?_⟩
   ·rcases h with h|h <;> rw[h] <;> rfl
   ·have e:special p=p.en:=by rw[he];rcases h with h|h <;> rw[h] <;> rfl
    have el:p.en.length<=64:=by
     rw[e] at hl
     rcases h with h|h <;> rw[h] at hl <;> simp[hdr] at hl <;> omega
    rw[e];subst h1;refine(writeEntry_st (rd1 hr) rfl (Reads.rd 0 rfl) (by omega)).mono ?_;rintro e w' ⟨r,B,c,h1,h2⟩;exact⟨r,B,c,h1,one_of h2⟩
  ·refine⟨_,?_,.inr (.inr (.inr (.inl rfl))),fun {w EA DA en ec dn dc} hr h1 h2 h3=>?_⟩
   ·rcases h with h|h <;> rw[h] <;> rfl
   ·have e:special p=wData p.h p.da.length++zs 4:=by rw[he];rcases h with h|h <;> rw[h] <;> rfl
    have e2:(special p).length=16:=by rcases h with h|h <;> rw[h] at hl <;> simp[hdr] at hl <;> omega
    rw[e2,e,<-h2];exact writeData_st (St.start w (by simp) rfl)
  ·refine⟨_,?_,.inr (.inr (.inr (.inr rfl))),fun {w EA DA en ec dn dc} hr h1 h2 h3=>?_⟩
   ·rw[h];rfl
   ·have e:special p=wReady p.h++zs 4:=by rw[he,h];rfl
    have e2:(special p).length=16:=by rw[h] at hl;simp[hdr] at hl;omega
    rw[e2,e];exact writeReady_st (St.start w (by simp) rfl)
 ·exact absurd (hdr_none _ h) hk
end Pd
end Go.Proofs.YtjnllcnknjlmmaaGreat
namespace Go.Proofs.YtjnllcnknjlmmaaGreat
open Go Go.RowKit
namespace Pd
open Se (St At Reads Cell)
open Li (v8 v8_one Rd Blk)
open Bv (n8 n32)
variable {w0 w:World} {X:List Nat} {L:List At}
attribute [local irreducible] Calls
theorem flags_any(w:World)(p:PDU)(h d:Nat){EA DA:Option Addr}{en ec dn dc:Nat}{n:Nat}(hn:flagsN p h d=n) :
  Calls Tryz.prog 134 #[.agg (pc p.h EA en ec DA dn dc).toArray,iv h,iv d] w fun e w'=>e=.returned (.int .u8 (n:Int))/\Below w.heap.size w w' :=
 (flags_st (St.start (L:=[]) w (by simp) rfl) p h d hn).mono fun _ _ ⟨h1,h2⟩=>⟨h1,h2.below⟩
theorem flagsN_lt(p:PDU)(h d:Nat):flagsN p h d<256:=by unfold flagsN;split <;> split <;> split <;> split <;> omega
theorem n8_nat{n:Nat}(h:n<256):n8 (BitVec.ofNat 8 n)=(n:Int):=by unfold n8;rw[BitVec.toNat_ofNat];omega
theorem start_ge(k:Nat){f:Fm}(h:framed f=true):hdr k+hsum k f<=start k f:=by
 have:=framed_al h
 have h1:1<=unit k f:=by unfold unit;split <;> omega
 unfold start
 have:=Nat.div_add_mod (hdr k+hsum k f+unit k f-1) (unit k f)
 have h2:=Nat.mod_lt (hdr k+hsum k f+unit k f-1) (show 0<unit k f by omega)
 rw[Nat.mul_comm] at this;omega
theorem fields_1(hs:St w0 X L w)(m:Nat){S A:Option Addr}{n c cap:Nat}{bs:List (BitVec 8)}(hn:n=bs.length)(hS:Reads L S [.slice A n c])(hA:Reads L A (bs.map v8))(hle:bs.length<=m)(hm:m<=70368744177664) :
  Calls Tryz.prog 137 #[.int .i64 m,.slice S 1 cap] w fun e w'=>∃ r B c',e=.returned (.slice B m c')/\St w0 X (.own 1 r B m c' ((bs++zs (m-bs.length)).map v8)::L) w':=by
 subst hn
 have e:flat [(⟨A,c,bs⟩:Pt)]=bs:=by simp[flat]
 have:=fields_st hs m [⟨A,c,bs⟩] (k:=1) (cap:=cap) rfl hS (fun p hp=>by rw[List.mem_singleton.1 hp];exact hA) (by rw[e];exact hle) hm (by omega)
 rwa [e] at this
theorem sizeE_ok{p:PDU}{f:Fm}(h1:framed f=true)(h2:valid p=true):sizeE p f=(size p f,0):=by unfold sizeE;rw[if_pos h1,if_pos h2]
theorem encE_ok{p:PDU}{f:Fm}(h1:framed f=true)(h2:valid p=true):encE p f=(enc p f,0):=by unfold encE;rw[if_pos h1,if_pos h2]
theorem encE_no{p:PDU}{f:Fm}(h:¬ (framed f=true/\valid p=true)):sizeE p f=(0,2)/\encE p f=([],2):=by
 unfold sizeE encE
 by_cases h1:framed f=true
 ·rw[if_pos h1,if_pos h1,if_neg (fun h2=>h ⟨h1,h2⟩),if_neg (fun h2=>h ⟨h1,h2⟩)];exact⟨rfl,rfl⟩
 ·rw[if_neg h1,if_neg h1];exact⟨rfl,rfl⟩
theorem encode_no(hs:St w0 X L w)(p:PDU)(f:Fm){EA DA:Option Addr}{en ec dn dc:Nat}(hE:Reads L EA (p.en.map v8))(hD:Reads L DA (p.da.map v8))(he:en=p.en.length)(hd:dn=p.da.length)(le:en<=70368744177664)(ld:dn<=70368744177664)(hr:sizeE p f=(0,2)) :
  Calls Tryz.prog 98 #[.agg (pc p.h EA en ec DA dn dc).toArray,fv f] w fun e' w'=>e'=.returned (.tuple #[.slice none 0 0,iv 2])/\St w0 X L w':=by
 obtain⟨P,hP⟩:∃ P,P=pc p.h EA en ec DA dn dc:=⟨_,rfl⟩
 obtain⟨F,hF⟩:∃ F,F=fl f:=⟨_,rfl⟩
 have PL:=Lib.hid (show P.length=14 by rw[hP];rfl)
 have FL:=Lib.hid (show F.length=3 by rw[hF];rfl)
 have CZ:Hid (∀ (L':List At) (w:World),St w0 X (L'++L) w->Calls Tryz.prog 129 #[.agg P.toArray,.agg F.toArray] w fun e w'=>e=.returned (.tuple #[iv 0,iv 2])/\St w0 X (L'++L) w'):=Lib.hid (fun L' w hs=>by rw[hF,<-fv_eq,hP];exact sizeP_st hs p f (hE.app L') (hD.app L') he hd le ld hr)
 rw[<-hP,fv_eq,<-hF];clear hP hF hE hD he hd le ld hr
 go_enter Tryz.func98,Tryz.ntmps98
 go_wp2_with (first|((with_reducible refine Se.iL 15 ?_);(refine Se.Ldw hs rfl rfl (Reads.blk 1 rfl) (by rw[PL.out];kernel_rfl) ?_))|((with_reducible refine Se.iL 16 ?_);(refine Se.Ldw hs rfl rfl (Reads.blk 0 rfl) (by rw[FL.out];kernel_rfl) ?_))|((first|with_reducible refine Se.ab hs ?_|with_reducible refine Se.abc hs ?_);clear hs;(first|((fail_if_success (have _q:=g2));generalize w.heap.size=g2;intro w hs)|(generalize w.heap.size=g3;intro w hs)))|(go_at_call 129;refine Calls.mono (CZ.out [_,_] _ hs) ?_;clear hs;rintro e w ⟨rfl,hs⟩))
 go_ret2;exact⟨rfl,hs.drop.drop⟩
theorem head_len(p:PDU)(f:Fm)(hv:valid p=true):(head p f).length=hdr p.h.k.toNat:=by
 have:=special_len p hv
 unfold head;simp[numL_length];omega
section
attribute [local go_sem] Bv.wrap_n8_of Bv.wrap_n32_of BitVec.ofInt_natCast
theorem encode_yes(hs:St w0 X L w)(p:PDU)(f:Fm){EA DA:Option Addr}{en ec dn dc:Nat}(hE:Reads L EA (p.en.map v8))(hD:Reads L DA (p.da.map v8))(he:en=p.en.length)(hd:dn=p.da.length)(le:en<=70368744177664)(ld:dn<=70368744177664)(h1:framed f=true)(h2:valid p=true){m:Nat}(hm:m=(enc p f).length) :
  Calls Tryz.prog 98 #[.agg (pc p.h EA en ec DA dn dc).toArray,fv f] w fun e' w'=>∃ r B c,e'=.returned (.tuple #[.slice B m c,iv 0])/\St w0 X (.own 1 r B m c ((enc p f).map v8)::L) w':=by
 obtain⟨kb,hkb⟩:∃ kb,kb=p.h.k:=⟨_,rfl⟩
 obtain⟨k,hk⟩:∃ k,k=p.h.k.toNat:=⟨_,rfl⟩
 have hkl:k<256:=by rw[hk];exact p.h.k.isLt
 have hnk:n8 kb=(k:Int):=by rw[hkb,hk];rfl
 have hk0:decide (hdr k≠0)=true:=by
  rw[valid_eq] at h2;unfold pv at h2;simp only[Bool.and_eq_true,<-hk] at h2;exact h2.1.1.1.1.1
 obtain⟨P,hP⟩:∃ P,P=pc p.h EA en ec DA dn dc:=⟨_,rfl⟩
 obtain⟨F,hF⟩:∃ F,F=fl f:=⟨_,rfl⟩
 obtain⟨xs,hxs⟩:∃ xs,shV k=xs:=⟨_,rfl⟩
 obtain⟨b3,hb3⟩:∃ b3,decide (0<dn)=b3:=⟨_,rfl⟩
 obtain⟨h,hh⟩:∃ h,hsum k f=h:=⟨_,rfl⟩
 obtain⟨d,hdd⟩:∃ d,dsum k f b3=d:=⟨_,rfl⟩
 obtain⟨s,hst⟩:∃ s,start k f=s:=⟨_,rfl⟩
 obtain⟨q,hq⟩:∃ q,hdr k=q:=⟨_,rfl⟩
 obtain⟨at0,hat⟩:∃ a,(if b3=true then s else 0)=a:=⟨_,rfl⟩
 obtain⟨n,hn⟩:∃ n,size p f=n:=⟨_,rfl⟩
 obtain⟨fg,hfg⟩:∃ fg,flagsN p h d=fg:=⟨_,rfl⟩
 obtain⟨sp,hsp⟩:∃ sp,special p=sp:=⟨_,rfl⟩
 obtain⟨HD,hHD⟩:∃ HD,head p f=HD:=⟨_,rfl⟩
 have hhs:Pd.hs p f=h:=by unfold Pd.hs;rw[<-hk];exact hh
 have hds:ds p f=d:=by unfold ds;rw[<-hk,<-hd,hb3];exact hdd
 have hat':at' p f=at0:=by unfold at';rw[<-hk,<-hd,hst,<-hat,<-hb3];simp
 have hql:q<=128:=by rw[<-hq];exact hdr_le k
 have HDL:Hid (q=HD.length):=Lib.hid (by rw[<-hHD,head_len p f h2,<-hk,hq])
 have HDE:Hid (∀ a b c:List (BitVec 8),a=[kb,BitVec.ofNat 8 fg,BitVec.ofNat 8 q,BitVec.ofNat 8 at0]->b=numL (BitVec.ofNat 32 n) 4->c=sp->a++b++c=HD):=Lib.hid (by
  rintro a b c rfl rfl rfl;rw[<-hHD];unfold head;rw[hhs,hds,hat',hn,hfg,<-hk,hq,<-hkb,hsp])
 have PL:=Lib.hid (show P.length=14 by rw[hP];rfl)
 have P0:=Lib.hid (show P[0]? = some (.int .u8 (n8 kb)) by rw[hP,hkb];rfl)
 have P13:=Lib.hid (show P[13]? = some (.slice DA dn dc) by rw[hP];rfl)
 have FL:=Lib.hid (show F.length=3 by rw[hF];rfl)
 have XL:=Lib.hid (show xs.length=7 by rw[<-hxs,shV_eq];rfl)
 have X0:=Lib.hid (show xs[0]? = some (iv q) by rw[<-hxs,shV_eq,hq];rfl)
 have XO:=Lib.hid (show ∀ v∈xs,v.oneCell'=true by rw[<-hxs];exact shV_one k)
 have ZS:=Lib.hid zShape
 have ZSL:=Lib.hid (show(shV 8).length=7 by rw[shV_eq];rfl)
 obtain⟨wf,hwf,hwn,hwc⟩:=wri_fn p h2
 have X5:=Lib.hid (show xs[5]? = some (fnv wf) by rw[<-hxs,shV_eq,hk,<-hwf];rfl)
 have WN:=Lib.hid hwn
 have CW:Hid (∀ w:World,Rd w EA (p.en.map v8)->Calls Tryz.prog wf #[.agg P.toArray] w fun e w'=>∃ r B c,e=.returned (.slice B sp.length c)/\St w [] [.own 1 r B sp.length c (sp.map v8)] w'):=Lib.hid (fun w hr=>by rw[hP,<-hsp];exact hwc hr he hd ld)
 have CZ:Hid (∀ (L':List At) (w:World),St w0 X (L'++L) w->Calls Tryz.prog 129 #[.agg P.toArray,.agg F.toArray] w fun e w'=>e=.returned (.tuple #[iv n,iv 0])/\St w0 X (L'++L) w'):=Lib.hid (fun L' w hs=>by rw[hF,<-fv_eq,hP,<-hn];exact sizeP_st hs p f (hE.app L') (hD.app L') he hd le ld (sizeE_ok h1 h2))
 have CO:Hid (∀ (L':List At) (w:World),St w0 X (L'++L) w->Calls Tryz.prog 130 #[.int .u8 (n8 kb)] w fun e w'=>e=.returned (.tuple #[.agg xs.toArray,.bool true])/\St w0 X (L'++L) w'):=Lib.hid (fun L' w hs=>by rw[hnk];exact of_st hs k hkl hk0 hxs)
 have CD:Hid (∀ (L':List At) (w:World),St w0 X (L'++L) w->Calls Tryz.prog 131 #[.int .u8 (n8 kb),.agg F.toArray,.bool b3] w fun e w'=>e=.returned (.tuple #[iv h,iv d])/\St w0 X (L'++L) w'):=Lib.hid (fun L' w hs=>by rw[hF,<-fv_eq,hnk];exact digests_st hs k f b3 hh hdd)
 have CS:Hid (∀ (L':List At) (w:World),St w0 X (L'++L) w->Calls Tryz.prog 132 #[.int .u8 (n8 kb),.agg xs.toArray,.agg F.toArray] w fun e w'=>e=.returned (iv s)/\St w0 X (L'++L) w'):=Lib.hid (fun L' w hs=>by rw[hF,<-fv_eq,hnk];exact start_st hs k h1 hxs hst)
 have CG:Hid (∀ w:World,Calls Tryz.prog 134 #[.agg P.toArray,iv h,iv d] w fun e w'=>e=.returned (.int .u8 (n8 (BitVec.ofNat 8 fg)))/\Below w.heap.size w w'):=Lib.hid (fun w=>by rw[hP,n8_nat (by rw[<-hfg];exact flagsN_lt p h d)];exact flags_any w p h d hfg)
 have HE:=Lib.hid hE
 have HDD:=Lib.hid hD
 rw[<-hP,fv_eq,<-hF]
 have FIN:Hid (∀ a b c:List (BitVec 8),a=(if 0<h then numL (crc HD) 4 else [])->b=(if 0<at0 then zs (at0-(HD++a).length)++p.da else [])->c=(if 0<d then numL (crc p.da) 4 else [])->HD++a++b++c=enc p f):=Lib.hid (by
  rintro a b c rfl rfl rfl;unfold enc head2;rw[hhs,hds,hat',hHD]
  have hz:at0=0->p.da=[]:=by
   intro h0
   cases b3 with
   | false=>have:=of_decide_eq_false hb3;exact List.eq_nil_of_length_eq_zero (by omega)
   | true =>
    exfalso
    rw[if_pos rfl] at hat
    have h3:=hst
    unfold start at h3
    have hu:1<=unit k f:=by have:=framed_al h1;unfold unit;split <;> omega
    have hq1:1<=hdr k:=by have:=of_decide_eq_true hk0;omega
    have:=Nat.div_pos (show unit k f<=hdr k+hsum k f+unit k f-1 by omega) (by omega)
    have:=Nat.mul_pos this (show 0<unit k f by omega)
    omega
  by_cases h0:0<at0
  ·rw[if_pos h0];simp
  ·rw[if_neg h0,hz (by omega),show at0=0 by omega];simp)
 have HM:=Lib.hid hm
 have hda:p.da.length<=1048576:=by
  have:=h2
  unfold valid at this;simp only[Bool.and_eq_true,decide_eq_true_eq] at this
  have h3:=this.1.1.2
  have:most p.h.k.toNat<=1048576:=by unfold most;split <;> omega
  omega
 have ldn:dn<=1048576:=by omega
 have hatl:at0<=260:=by rw[<-hat];split;(focus (rw[<-hst];exact start_le k h1));(focus omega)
 have HDN:Hid (p.da.length=dn):=Lib.hid hd.symm
 have hhl:h<=4:=by rw[<-hh];exact hsum_le k f
 have HL2:Hid (0<at0->q+(if 0<h then 4 else 0)<=at0):=Lib.hid (fun h0=>by
  have hb:b3=true:=by cases b3;(focus (simp at hat;omega));(focus rfl)
  rw[if_pos hb] at hat
  have h4:(if 0<h then 4 else 0)=h:=by rw[<-hh];unfold hsum;split <;> rfl
  rw[h4,<-hat,<-hst,<-hq,<-hh];exact start_ge k h1)
 clear hP hF hxs hh hdd hst hq hn hfg hsp hHD hhs hds hat' hk hkl hnk hk0 hE hD he hd le h1 h2 hwf hwn hwc hkb hm;clear ld hda
 go_enter Tryz.func98,Tryz.ntmps98
 go_upto_if 43 with (first|((with_reducible refine Se.iL 15 ?_);(refine Se.Ldw hs rfl rfl (Reads.blk 1 rfl) (by rw[PL.out];kernel_rfl) ?_))|((with_reducible refine Se.iL 16 ?_);(refine Se.Ldw hs rfl rfl (Reads.blk 0 rfl) (by rw[FL.out];kernel_rfl) ?_))|((with_reducible refine Se.iL 25 ?_);(refine Se.Ld hs rfl rfl (Cell.blk 1 rfl P0.out) ?_))|((with_reducible refine Se.iL 8 ?_);(refine Se.Al hs rfl (ZS.out) ?_;clear hs;rintro w g8-hs))|((with_reducible refine Se.isL (o:=⟨none,Op.store 217 _ _,_,_,_,_⟩) ?_);(refine Se.Sow 0 hs rfl rfl rfl rfl (XO.out) (by rw[XL.out];kernel_rfl) (by rw[XL.out,ZSL.out]) ?_;clear hs;intro w hs;try simp only[pS] at hs))|((with_reducible refine Se.iL 31 ?_);(refine Se.Ld hs rfl rfl (Cell.blk 2 rfl P0.out) ?_))|((with_reducible refine Se.iL 32 ?_);(refine Se.Ldw hs rfl rfl (Reads.blk 1 rfl) (by rw[FL.out];kernel_rfl) ?_))|((with_reducible refine Se.iL 34 ?_);(refine Se.Ld hs rfl rfl (Cell.blk 2 rfl P13.out) ?_))|((with_reducible refine Se.iL 41 ?_);(refine Se.Ld hs rfl rfl (Cell.blk 2 rfl P13.out) ?_))|((first|with_reducible refine Se.ab hs ?_|with_reducible refine Se.abc hs ?_);clear hs;(first|((fail_if_success (have _q:=g2));generalize w.heap.size=g2;intro w hs)|(generalize w.heap.size=g3;intro w hs)))|(go_at_call 129;refine Calls.mono (CZ.out [_,_] _ hs) ?_;clear hs;rintro e w ⟨rfl,hs⟩)|(go_at_call 130;refine Calls.mono (CO.out [_,_] _ hs) ?_;clear hs;rintro e w ⟨rfl,hs⟩)|(go_at_call 131;refine Calls.mono (CD.out [_,_,_] _ hs) ?_;clear hs;rintro e w ⟨rfl,hs⟩))
 go_cut [12] (fun s12 wx=>s12=iv at0/\St w0 X ([.blk g8 217 xs,.blk g3 54 F,.blk g2 65 P]++L) wx)
 case first =>
  cases b3 with
  | true =>
   rw[if_pos rfl] at hat;subst hat
   go_wp2_with (first|((with_reducible refine Se.iL 45 ?_);(refine Se.Ld hs rfl rfl (Cell.blk 2 rfl P0.out) ?_))|((with_reducible refine Se.iL 46 ?_);(refine Se.Ldw hs rfl rfl (Reads.blk 0 rfl) (by rw[XL.out];kernel_rfl) ?_))|((with_reducible refine Se.iL 47 ?_);(refine Se.Ldw hs rfl rfl (Reads.blk 1 rfl) (by rw[FL.out];kernel_rfl) ?_))|(go_at_call 132;refine Calls.mono (CS.out [_,_,_] _ hs) ?_;clear hs;rintro e w ⟨rfl,hs⟩))
   go_meet;exact⟨rfl,hs⟩
  | false =>
   rw[if_neg (by decide)] at hat;subst hat
   go_wp2_with fail
   go_meet;exact⟨rfl,hs⟩
 case rest =>
  clear hs CZ CO CD CS hb3 hat
  obtain⟨rfl,hs⟩:=hcut
  rename World=>w
  go_upto_region 9 with (fail)
  go_cut [13] (fun s13 wx=>∃ r A c,s13=.slice A q c/\St w0 X ([.own 1 r A q c (HD.map v8),.blk g8 217 xs,.blk g3 54 F,.blk g2 65 P]++L) wx)
  case first =>
   refine Hv.grow 22 (fun|5=>some (Hv.con (.int .u8 (n8 (BitVec.ofNat 8 fg))))|11=>some (Hv.row [v8 kb,v8 (BitVec.ofNat 8 fg),v8 (BitVec.ofNat 8 q),v8 (BitVec.ofNat 8 at0)] 5)|14=>some (Nown w 4 ((numL (BitVec.ofNat 32 n) 4).map v8))|18=>some (Nown w sp.length (sp.map v8))|19=>some (Nparts 3 HD)|20=>some (Nown w q (HD.map v8))|_=>none) (fun|19=>[[11,19],[14,19],[18,19]]|20=>[[19,20]]|_=>[]) (by kernel_rfl) (by kernel_rfl) ?_ ?_
   ·intro i m hm v wa wb hR hv
    split at hm <;> first|cases hm|skip
    all_goals first|exact Hv.row_st hR hv|exact Hv.con_st hR hv|exact Nown_st hR hv|exact Nparts_st hR hv
   ·change Hv.HW _ _ _ _ _ _ _ [0,1,2,3,4,5,6,7,8,9,10,11,12,13,14,15,16,17,18,19,20,21] _ _
    iterate 5 ((first|refine Hv.pA ?_|refine Hv.pE (hv:=fun wx hS=>Se.xL (hc:=(by rw[((hs.ext hS).hold (.blk g2 65 P) (by simp)).cell];exact P0.out))) (h:=?_)|refine Hv.pE (hv:=fun wx hS=>Se.xR (hr:=(Li.Rd.of_blk ((hs.ext hS).hold (.blk g2 65 P) (by simp)))) (hi:=(by rw[PL.out] <;> kernel_rfl))) (h:=?_));(try simp only[pU]))
    refine Hv.noise (m:=_) (by rfl) (by rfl) (by rfl) (Hv.con_ex _) (fun wx hS hf=>?_) (fun v hv=>?_)
    ·unfold Hv.Gives
     go_simp
     refine(CG.out wx).mono ?_;rintro e w' ⟨rfl,hb⟩;exact⟨_,rfl,hb,rfl,trivial⟩
    obtain rfl:=hv
    (try simp only[pU])
    iterate 2 ((first|refine Hv.pA ?_|refine Hv.pE (hv:=fun wx hS=>Se.xL (hc:=(by rw[((hs.ext hS).hold (.blk g8 217 xs) (by simp)).cell];exact X0.out))) (h:=?_));(try simp only[pU]))
    iterate 3 (refine Hv.pA ?_;(try simp only[pU]))
    refine Hv.noise (m:=_) (by rfl) (by rfl) (by rfl) (Hv.row_ex _ _) (fun wx hS hf=>?_) (fun v hv=>?_)
    ·unfold Hv.Gives
     go_simp
     exact Hv.row_new wx [v8 kb,v8 (BitVec.ofNat 8 fg),v8 (BitVec.ofNat 8 q),v8 (BitVec.ofNat 8 at0)] 5
    obtain⟨b11,rfl⟩:=hv
    (try simp only[pU])
    iterate 2 (refine Hv.pA ?_;(try simp only[pU]))
    refine Hv.noise (m:=_) (by rfl) (by rfl) (by rfl) (Nown_ex _ _ _) (fun wx hS hf=>?_) (fun v hv=>?_)
    ·refine Se.gcall (f:=135) (args:=#[.int .u32 (n32 (BitVec.ofNat 32 n)),.int .i64 4]) ?_ ?_
     ·go_simp
     refine Calls.mono (number_any wx (BitVec.ofNat 32 n) 4 (by omega)) ?_;rintro e w' ⟨r,B,c,rfl,hn⟩;exact⟨_,rfl,Nown_new hS hn⟩
    obtain⟨A14,c14,rfl⟩:=hv
    (try simp only[pU])
    iterate 3 ((first|refine Hv.pA ?_|refine Hv.pE (hv:=fun wx hS=>Se.xL (hc:=(by rw[((hs.ext hS).hold (.blk g8 217 xs) (by simp)).cell];exact X5.out))) (h:=?_)|refine Hv.pE (hv:=fun wx hS=>Se.xR (hr:=(Li.Rd.of_blk ((hs.ext hS).hold (.blk g2 65 P) (by simp)))) (hi:=(by rw[PL.out] <;> kernel_rfl))) (h:=?_));(try simp only[pU]))
    refine Hv.noise (m:=_) (by rfl) (by rfl) (by rfl) (Nown_ex _ _ _) (fun wx hS hf=>?_) (fun v hv=>?_)
    ·refine Se.gcall (f:=wf) (args:=#[.agg P.toArray]) ?_ ?_
     ·have hw:=WN.out
      clear WN CW X5
      rcases hw with rfl|rfl|rfl|rfl|rfl <;> go_simp
     refine Calls.mono (CW.out wx ((HE.out.app [.blk g8 217 xs,.blk g3 54 F,.blk g2 65 P]) wx (hs.ext hS).hold)) ?_;rintro e w' ⟨r,B,c,rfl,hn⟩;exact⟨_,rfl,Nown_new hS hn⟩
    obtain⟨A18,c18,rfl⟩:=hv
    (try simp only[pU]);refine Hv.noise (m:=_) (by rfl) (by rfl) (by rfl) (Nparts_ex _ _) (fun wx hS hf=>?_) (fun v hv=>?_)
    ·have f11:=hf _ (List.mem_cons_of_mem _ (List.mem_cons_of_mem _ (List.mem_cons_self))) ⟨[11,19],by simp,rfl⟩
     have f14:=hf _ (List.mem_cons_of_mem _ (List.mem_cons_self)) ⟨[14,19],by simp,rfl⟩
     have f18:=hf _ (List.mem_cons_self) ⟨[18,19],by simp,rfl⟩
     exact Nparts_bs wx ([⟨some ⟨b11,0,none⟩,4,[kb,BitVec.ofNat 8 fg,BitVec.ofNat 8 q,BitVec.ofNat 8 at0]⟩,⟨A14,c14,numL (BitVec.ofNat 32 n) 4⟩,⟨A18,c18,sp⟩]) rfl (by rfl) (by rfl) (by decide) (by decide) (by simp only[List.forall_mem_cons,List.not_mem_nil,false_imp_iff,implies_true,and_true];exact⟨row_rd f11,Nown_rd f14,Nown_rd f18⟩) (by rw[flat3];exact HDE.out _ _ _ rfl rfl rfl)
    obtain⟨b19,rfl⟩:=hv
    (try simp only[pU]);refine Hv.noise (m:=_) (by rfl) (by rfl) (by rfl) (Nown_ex _ _ _) (fun wx hS hf=>?_) (fun v hv=>?_)
    ·have f19:=hf _ (List.mem_cons_self) ⟨[19,20],by simp,rfl⟩
     refine Se.gcall (f:=133) (args:=#[.slice (some ⟨b19,0,none⟩) 3 3]) ?_ ?_
     ·go_simp
     refine Calls.mono (concat_np wx f19 HDL.out (by omega) (by omega)) ?_;rintro e w' ⟨r,B,c,rfl,hn⟩;exact⟨_,rfl,Nown_new hS hn⟩
    obtain⟨A,c,rfl⟩:=hv
    (try simp only[pU])
    iterate 1 (refine Hv.pA ?_;(try simp only[pU]))
    refine Hv.done (fun wx hS hf=>?_)
    obtain⟨rr,kk⟩:=hf _ (List.mem_cons_self) _ _ rfl
    replace hs:=hs.join kk (by simp[At.noRd]);clear kk hf hS;simp only[List.cons_append,List.nil_append] at hs;simp only[List.drop_succ_cons,List.drop_nil,List.drop_zero]
    go_wp2_with fail
    go_meet;exact⟨rr,A,c,rfl,hs⟩
  case rest =>
   clear hs CG CW WN HDE X0 X5 XO ZS ZSL FL XL
   obtain⟨r,A,c,rfl,hs⟩:=hcut
   rename World=>w
   obtain⟨H2,hH2⟩:∃ H2,H2=HD++(if 0<h then numL (crc HD) 4 else []):=⟨_,rfl⟩
   obtain⟨m2,hm2⟩:∃ m2,m2=H2.length:=⟨_,rfl⟩
   have M2:Hid (m2=q+if 0<h then 4 else 0):=Lib.hid (by rw[hm2,hH2,List.length_append,<-HDL.out];split <;> simp[numL_length])
   have HM2:=Lib.hid hm2
   have HH2:=Lib.hid hH2
   clear hm2 hH2
   go_upto_if 71 with (fail)
   go_cut [13] (fun s13 wx=>∃ r A c,s13=.slice A m2 c/\St w0 X ([.own 1 r A m2 c (H2.map v8),.blk g8 217 xs,.blk g3 54 F,.blk g2 65 P]++L) wx)
   case first =>
    by_cases h0:0<h
    ·have e1:=M2.out
     have e2:=HH2.out
     rw[if_pos h0] at e1 e2
     have E1:=Lib.hid e1
     have E2:=Lib.hid e2
     clear e1 e2
     go_wp2_with (first|((with_reducible refine Se.iL 76 ?_);(refine Se.toL rfl (Se.ap (o:=⟨some 76,_,_,_,_,_⟩) 1 hs rfl rfl rfl rfl (Reads.own 0 rfl) Tryz.underlying24 u8i3 rfl (by decide) (v8_one _) (by rw[List.length_map,numL_length]) (by omega) (by omega) ?_);clear hs;rintro w r' A' c' hs;try simp only[pS] at hs))|(go_at_call 136;refine Calls.mono (crc_st hs HDL.out (Reads.own 0 rfl) (by omega) rfl) ?_;clear hs;rintro e w ⟨rfl,hs⟩)|(go_at_call 135;refine Calls.mono (number_st hs (crc HD) 4 (by omega)) ?_;clear hs;rintro e w ⟨r2,A2,c2,rfl,hs⟩))
     go_meet;refine⟨r',A',c',by rw[E1.out],?_⟩;rw[E2.out,List.map_append,E1.out];exact hs.drop
    ·have e1:=M2.out
     have e2:=HH2.out
     rw[if_neg h0,Nat.add_zero] at e1;rw[if_neg h0,List.append_nil] at e2
     have E1:=Lib.hid e1
     have E2:=Lib.hid e2
     clear e1 e2
     have h0':h=0:=by omega
     subst h0'
     go_wp2_with fail
     go_meet;exact⟨r,A,c,by rw[E1.out],by rw[E2.out,E1.out];exact hs⟩
   case rest =>
    clear hs
    obtain⟨r,A,c,rfl,hs⟩:=hcut
    rename World=>w
    obtain⟨H3,hH3⟩:∃ H3,H3=H2++(if 0<at0 then zs (at0-H2.length)++p.da else []):=⟨_,rfl⟩
    obtain⟨m3,hm3⟩:∃ m3,m3=H3.length:=⟨_,rfl⟩
    have M3:Hid (m3=if 0<at0 then at0+dn else m2):=Lib.hid (by
     rw[hm3,hH3,List.length_append,<-HM2.out]
     split
     ·have:=HL2.out ‹_›;rw[List.length_append,List.length_replicate,HDN.out,M2.out];omega
     ·simp)
    have HM3:=Lib.hid hm3
    have HH3:=Lib.hid hH3
    clear hm3 hH3
    go_upto_if 78 with (fail)
    go_cut [13] (fun s13 wx=>∃ r A c,s13=.slice A m3 c/\St w0 X ([.own 1 r A m3 c (H3.map v8),.blk g8 217 xs,.blk g3 54 F,.blk g2 65 P]++L) wx)
    case first =>
     by_cases h0:0<at0
     ·have e1:=M3.out
      have e2:=HH3.out
      rw[if_pos h0] at e1 e2
      have E1:=Lib.hid e1
      have E2:=Lib.hid e2
      have HLE:=Lib.hid (show H2.length<=at0 by have:=HL2.out h0;rw[<-HM2.out,M2.out];exact this)
      clear e1 e2
      go_upto_region 13 with (fail)
      refine Ch.region' 8 (fun wx=>Blk wx g2 P 65) (fun|2=>true|3=>true|6=>true|_=>false) (by kernel_rfl) (by decide +kernel) (hs.drew.hold (.blk g2 65 P) (by simp)) ?_;replace hs:=hs.drew;generalize w.drew=w at hs ⊢;change Ch.CW _ _ _ _ _ [0,1,2,3,4,5,6,7] _ _
      iterate 2 (refine Ch.pA ?_;(try simp only[pU]))
      refine Ch.nA (h:=Se.bsv hs rfl Tryz.underlying203 bysi rfl [.slice A m2 c] (by rfl) rfl (by simp) (by simp) (by simp[Value.oneCell']) ?_);clear hs;rintro w g81-hs;refine⟨hs.hold (.blk g2 65 P) (by simp),?_⟩;(try simp only[pU]);refine Ch.cA (f:=137) (args:=#[.int .i64 at0,.slice (some ⟨g81,0,none⟩) 1 1]) (fields_1 hs at0 HM2.out (Reads.blk 0 rfl) (Reads.own 1 rfl) HLE.out (by omega)) ?_;clear hs;rintro e w⟨r3,A3,c3,rfl,hs⟩;refine⟨_,rfl,hs.hold (.blk g2 65 P) (by simp),?_⟩;(try simp only[pU])
      iterate 2 ((first|refine Ch.pA ?_|refine Ch.pE (hv:=fun wx hS=>Se.xL (hc:=(by rw[hS.cell];exact P13.out))) (h:=?_));(try simp only[pU]))
      refine Ch.nA (h:=Se.ap 0 hs rfl rfl rfl rfl (HDD.out.app [_,_,_,_,_,_]) Tryz.underlying24 u8i3 rfl (by decide) (v8_one _) (by rw[List.length_map,HDN.out,Nat.mul_one]) (by omega) (by omega) ?_);clear hs;rintro w r' A' c' hs
      try simp only[List.set_cons_zero] at hs
      refine⟨hs.hold (.blk g2 65 P) (by simp),?_⟩;(try simp only[pU])
      iterate 1 (refine Ch.pA ?_;(try simp only[pU]))
      refine Ch.done ?_
      try simp only[List.drop_succ_cons,List.drop_zero]
      go_wp2_with fail
      go_meet;refine⟨r',A',c',by rw[E1.out],?_⟩;rw[E2.out,<-List.append_assoc,List.map_append,E1.out];exact hs.sub (List.Sublist.cons_cons _ (.cons _ (.cons _ (List.Sublist.refl _))))
     ·have e1:=M3.out
      have e2:=HH3.out
      rw[if_neg h0] at e1;rw[if_neg h0,List.append_nil] at e2
      have E1:=Lib.hid e1
      have E2:=Lib.hid e2
      clear e1 e2
      have h0':at0=0:=by omega
      subst h0'
      go_wp2_with fail
      go_meet;exact⟨r,A,c,by rw[E1.out],by rw[E2.out,E1.out];exact hs⟩
    case rest =>
     clear hs
     obtain⟨r,A,c,rfl,hs⟩:=hcut
     rename World=>w
     have FE:Hid (H3++(if 0<d then numL (crc p.da) 4 else [])=enc p f):=Lib.hid (by rw[<-FIN.out _ _ _ rfl rfl rfl,HH3.out,HH2.out])
     by_cases h0:0<d
     ·have e2:=FE.out
      rw[if_pos h0] at e2
      have e1:m=m3+4:=by rw[HM.out,<-e2,List.length_append,numL_length,HM3.out]
      have E1:=Lib.hid e1
      have E2:=Lib.hid e2
      have MB:m3<=1050000:=by rw[M3.out,M2.out];(repeat' split) <;> omega
      clear e1 e2
      go_wp2_with (first|((with_reducible refine Se.iL 90 ?_);(refine Se.Ld hs rfl rfl (Cell.blk 3 rfl P13.out) ?_))|((with_reducible refine Se.iL 93 ?_);(refine Se.toL rfl (Se.ap (o:=⟨some 93,_,_,_,_,_⟩) 1 hs rfl rfl rfl rfl (Reads.own 0 rfl) Tryz.underlying24 u8i3 rfl (by decide) (v8_one _) (by rw[List.length_map,numL_length]) (by omega) (by omega) ?_);clear hs;rintro w r' A' c' hs;try simp only[pS] at hs))|(go_at_call 136;refine Calls.mono (crc_st hs HDN.out.symm (HDD.out.app [_,_,_,_]) (by omega) rfl) ?_;clear hs;rintro e w ⟨rfl,hs⟩)|(go_at_call 135;refine Calls.mono (number_st hs (crc p.da) 4 (by omega)) ?_;clear hs;rintro e w ⟨r2,A2,c2,rfl,hs⟩))
      go_ret2;refine⟨r',A',c',by rw[E1.out];rfl,?_⟩;rw[<-E2.out,List.map_append,E1.out];exact hs.drop.sub (List.Sublist.cons_cons _ (.cons _ (.cons _ (.cons _ (List.Sublist.refl _)))))
     ·have e2:=FE.out
      rw[if_neg h0,List.append_nil] at e2
      have e1:m=m3:=by rw[HM.out,<-e2,HM3.out]
      have E1:=Lib.hid e1
      have E2:=Lib.hid e2
      clear e1 e2
      have h0':d=0:=by omega
      subst h0'
      go_wp2_with fail
      go_ret2;exact⟨r,A,c,by rw[E1.out];rfl,by rw[<-E2.out,E1.out];exact hs.sub (List.Sublist.cons_cons _ (.cons _ (.cons _ (.cons _ (List.Sublist.refl _)))))⟩
end
theorem encode_st(hs:St w0 X L w)(p:PDU)(f:Fm){EA DA:Option Addr}{en ec dn dc:Nat}(hE:Reads L EA (p.en.map v8))(hD:Reads L DA (p.da.map v8))(he:en=p.en.length)(hd:dn=p.da.length)(le:en<=70368744177664)(ld:dn<=70368744177664){bs:List (BitVec 8)}{e:Nat}(hr:encE p f=(bs,e)){m:Nat}(hm:m=bs.length) :
  Calls Tryz.prog 98 #[.agg (pc p.h EA en ec DA dn dc).toArray,fv f] w fun e' w'=>∃ r B c,e'=.returned (.tuple #[.slice B m c,iv e])/\St w0 X (.own 1 r B m c (bs.map v8)::L) w':=by
 by_cases h:framed f=true/\valid p=true
 ·rw[encE_ok h.1 h.2] at hr
  cases hr
  exact encode_yes hs p f hE hD he hd le ld h.1 h.2 hm
 ·obtain⟨h1,h2⟩:=encE_no h
  rw[h2] at hr
  cases hr
  subst hm;exact(encode_no hs p f hE hD he hd le ld h1).mono fun e w' ⟨h3,h4⟩=>⟨none,none,0,h3,h4.nil_own 1 none⟩
end Pd
end Go.Proofs.YtjnllcnknjlmmaaGreat
namespace Go.Proofs.YtjnllcnknjlmmaaGreat
open Go Go.RowKit
namespace Pd
def c4(k fl:Nat):Bool:=decide (fl<16)&&(!bit fl 2 || decide (k=6\/k=7))
def c5(k fl:Nat):Bool := !bit fl 3 || (decide (k=7)&&bit fl 2)
def c6(k fl:Nat)(f:Fm):Bool:=(bit fl 0==decide (0<hsum k f))&&(!bit fl 1 || (f.dd && !decide (k<=3)))
def c7(k hl at0:Nat)(f:Fm):Bool:=decide (hl=hdr k)&&(decide (at0=0) || decide (at0=start k f))
def c8(k fl at0:Nat)(f:Fm):Bool:=bit fl 1==decide (0<dsum k f (decide (0<at0)))
def c9(k at0 total:Nat)(f:Fm):Bool:=if at0=0 then decide (least k=0)&&decide (total=hdr k+hsum k f) else decide (0<most k)&&decide (at0+1+dsum k f (decide (0<at0))<=total)&&decide (total<=at0+most k+dsum k f (decide (0<at0)))
def mch(b:List (BitVec 8))(f:Fm):Nat × Nat :=
 if framed f=false then (0,2) else
 if b.length<8 then (0,4) else
 let k:=(b.getD 0 0#8).toNat
 let fl:=(b.getD 1 0#8).toNat
 let hl:=(b.getD 2 0#8).toNat
 let at0:=(b.getD 3 0#8).toNat
 let total:=bigL (sub b 4 8)
 if decide (hdr k≠0)=false then (0,360) else
 if c4 k fl=false then (0,361) else
 if c5 k fl=false then (0,361) else
 if c6 k fl f=false then (0,361) else
 if c7 k hl at0 f=false then (0,362) else
 if c8 k fl at0 f=false then (0,362) else
 if c9 k at0 total f=false then (0,362) else
 (total,0)
theorem least_iff(k:Nat):least k=0 ↔ ¬ (k=6\/k=7):=by
 unfold least
 split
 ·omega
 ·omega
 ·rename_i h1 h2
  exact⟨fun _ h=>h.elim h1 h2,fun _=>rfl⟩
theorem flags_iff(k fl:Nat)(f:Fm):(15<fl\/bit fl 2=true/\k≠6/\k≠7\/bit fl 3=true/\(k≠7\/bit fl 2=false)\/bit fl 0≠decide (0<hsum k f)\/bit fl 1=true/\(k<4\/f.dd=false)) ↔ ¬ (c4 k fl=true/\c5 k fl=true/\c6 k fl f=true):=by
 unfold c4 c5 c6
 have h1:decide (fl<16)=true ↔ ¬ 15<fl:=by simp;omega
 have h2:decide (k<=3)=true↔k<4:=by simp;omega
 have h3:decide (k=6\/k=7)=true↔(k=6\/k=7):=by simp
 have h4:decide (k=7)=true↔k=7:=by simp
 generalize decide (fl<16)=x1 at *
 generalize decide (k<=3)=x2 at *
 generalize decide (k=6\/k=7)=x3 at *
 generalize decide (k=7)=x4 at *
 generalize decide (0<hsum k f)=x5 at *
 generalize bit fl 0=y0 at *
 generalize bit fl 1=y1 at *
 generalize bit fl 2=y2 at *
 generalize bit fl 3=y3 at *
 generalize f.dd=dd at *
 grind
theorem len_iff(k fl hl at0 total:Nat)(f:Fm):(¬ (hl≠hdr k\/at0≠0/\at0≠start k f\/at0≠0/\most k=0\/at0=0/\(k=6\/k=7))/\¬ (bit fl 1≠decide (0<dsum k f (decide (0<at0)))\/at0=0/\total≠hdr k+hsum k f\/0<at0/\(total<at0+1+dsum k f (decide (0<at0))\/at0+most k+dsum k f (decide (0<at0))<total)))↔(c7 k hl at0 f=true/\c8 k fl at0 f=true/\c9 k at0 total f=true):=by
 unfold c7 c8 c9
 have hL:=least_iff k
 generalize dsum k f (decide (0<at0))=d at *
 generalize bit fl 1=y at *
 generalize least k=l at *
 generalize most k=m at *
 generalize start k f=s at *
 generalize hdr k+hsum k f=t at *
 generalize hdr k=q at *
 by_cases h0:at0=0
 ·subst h0
  simp
  grind
 ·rw[if_neg h0]
  simp[h0]
  grind
theorem meas_eq(b:List (BitVec 8))(f:Fm):meas b f=mch b f:=by
 unfold meas mch
 split
 ·rfl
 split
 ·rfl
 dsimp only
 generalize (b.getD 0 0#8).toNat=k;generalize (b.getD 1 0#8).toNat=fl;generalize (b.getD 2 0#8).toNat=hl;generalize (b.getD 3 0#8).toNat=at0;generalize bigL (sub b 4 8)=total
 by_cases hk:hdr k=0
 ·rw[if_pos hk,if_pos (show decide (hdr k≠0)=false by simp[hk])]
 rw[if_neg hk,if_neg (show ¬ decide (hdr k≠0)=false by simp[hk])]
 have h1:=flags_iff k fl f
 have h2:=len_iff k fl hl at0 total f
 by_cases hf:15<fl\/bit fl 2=true/\k≠6/\k≠7\/bit fl 3=true/\(k≠7\/bit fl 2=false)\/bit fl 0≠decide (0<hsum k f)\/bit fl 1=true/\(k<4\/f.dd=false)
 ·rw[if_pos hf]
  have:=h1.1 hf
  clear h1 h2 hf hk;generalize c4 k fl=x at *
  generalize c5 k fl=y at *
  generalize c6 k fl f=z at *
  cases x <;> cases y <;> cases z <;> simp at this ⊢
 ·rw[if_neg hf]
  have h3:c4 k fl=true/\c5 k fl=true/\c6 k fl f=true:=Decidable.byContradiction fun h=>hf (h1.2 h)
  rw[h3.1,h3.2.1,h3.2.2];simp only[Bool.true_eq_false,if_false];clear h1 h3 hf hk
  by_cases ha:hl≠hdr k\/at0≠0/\at0≠start k f\/at0≠0/\most k=0\/at0=0/\(k=6\/k=7)
  ·rw[if_pos ha]
   have:¬ (c7 k hl at0 f=true/\c8 k fl at0 f=true/\c9 k at0 total f=true):=fun h=>(h2.2 h).1 ha
   clear h2 ha;generalize c7 k hl at0 f=x at *
   generalize c8 k fl at0 f=y at *
   generalize c9 k at0 total f=z at *
   cases x <;> cases y <;> cases z <;> simp at this ⊢
  ·rw[if_neg ha]
   by_cases hb:bit fl 1≠decide (0<dsum k f (decide (0<at0)))\/at0=0/\total≠hdr k+hsum k f\/0<at0/\(total<at0+1+dsum k f (decide (0<at0))\/at0+most k+dsum k f (decide (0<at0))<total)
   ·rw[if_pos hb]
    have:¬ (c7 k hl at0 f=true/\c8 k fl at0 f=true/\c9 k at0 total f=true):=fun h=>(h2.2 h).2 hb
    clear h2 ha hb;generalize c7 k hl at0 f=x at *
    generalize c8 k fl at0 f=y at *
    generalize c9 k at0 total f=z at *
    cases x <;> cases y <;> cases z <;> simp at this ⊢
   ·rw[if_neg hb]
    have:=h2.1 ⟨ha,hb⟩
    rw[this.1,this.2.1,this.2.2];simp
theorem bit_and2:∀ x:Nat,x<256->(bits .and .u8 (x:Int) 4==0)=(!bit x 2)/\(bits .and .u8 (x:Int) 8==0)=(!bit x 3)/\(bits .and .u8 (x:Int) 2==0)=(!bit x 1)/\(bits .and .u8 (x:Int) 1==0)=(!bit x 0):=by
 have:((List.range 256).all fun x=>decide ((bits .and .u8 (x:Int) 4==0)=(!bit x 2)/\(bits .and .u8 (x:Int) 8==0)=(!bit x 3)/\(bits .and .u8 (x:Int) 2==0)=(!bit x 1)/\(bits .and .u8 (x:Int) 1==0)=(!bit x 0)))=true:=by decide +kernel
 intro x hx
 have:=List.all_eq_true.1 this x (by simpa using hx)
 simpa using this
end Pd
end Go.Proofs.YtjnllcnknjlmmaaGreat
