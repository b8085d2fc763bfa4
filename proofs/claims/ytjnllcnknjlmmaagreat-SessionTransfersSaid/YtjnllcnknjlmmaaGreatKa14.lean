/- Layer 41. -/
import Derived.Laws.Cover3
import Derived.Test.YtjnllcnknjlmmaaGreatKa13
set_option linter.unusedSimpArgs false
set_option linter.unusedVariables false
set_option maxRecDepth 100000
set_option maxHeartbeats 4000000
namespace Go.Proofs.YtjnllcnknjlmmaaGreat
open Go Go.RowKit
namespace Sn
open Pd (PDU pc iv)
open Se (St At Reads Cell mp)
open Li (v8 v8_one Rd Blk)
open Bv (n8 n16)
variable {w0 w:World} {X:List Nat} {L:List At}
attribute [local irreducible] Calls
theorem arr64(A:Option Addr)(c:Nat)(w:World):(Instr.arrayAt 37 (.slice A 64 c)).run Tryz.prog w=.ok (.pointer A) w:=run_arrayAt w _ _ 64 A 64 c Tryz.underlying37 (Nat.le_refl _)
attribute [local go_sem] arr64
def ztx:Tx × Th:=(⟨List.replicate 64 0#8,0#16,0,[],0⟩,{})
theorem tx_z2:(Tryz.prog.info? 180).bind (·.zero)=some (.agg (txv ztx).toArray):=by kernel_rfl
theorem int_z2:(Tryz.prog.info? 3).bind (·.zero)=some (iv 0):=by kernel_rfl
theorem arr_z:(Tryz.prog.info? 37).bind (fun i=>i.zero.map (·.cells.toList))=some (List.replicate 64 (Value.int .u8 0)):=by kernel_rfl
theorem n16_nat(a:Nat):IntKind.u16.wrap (a:Int)=n16 (BitVec.ofNat 16 a):=by unfold n16;simp[IntKind.wrap,IntKind.bits,IntKind.signed]
theorem get_tPs(tl:TL)(id:BitVec 16):(Se.getP (tPs tl) (n16 id)).getD (.agg (txv ztx).toArray)=.agg (txv ((getA tl id).getD ztx)).toArray/\(Se.getP (tPs tl) (n16 id)).isSome=(getA tl id).isSome:=by
 unfold tPs;rw[getP_toP]
 cases getA tl id <;> exact⟨rfl,rfl⟩
theorem get_rPs(l:List (BitVec 16 × Nat))(id:BitVec 16):(Se.getP (rPs l) (n16 id)).getD (iv 0)=iv ((getA l id).getD 0)/\(Se.getP (rPs l) (n16 id)).isSome=(getA l id).isSome:=by
 unfold rPs;rw[getP_toP]
 cases getA l id <;> exact⟨rfl,rfl⟩
theorem desc_len(c:Cf)(b:Bs)(d:Nat)(h:(descE c b d).2=true)(hd:dirE b=1\/dirE b=2):(descE c b d).1=lenE b:=by
 unfold descE at h ⊢
 split at h
 ·cases h
 ·rename_i h1
  rw[if_neg h1]
  have h0:dirE b≠0:=by omega
  rw[if_neg h0]
  by_cases h2:dirE b=1
  ·rw[if_pos h2]
   split <;> rfl
  ·rw[if_neg h2]
   have h3:dirE b=2:=by omega
   rw[if_pos h3]
theorem desc_le(c:Cf)(b:Bs)(d:Nat):(descE c b d).1<=1048576:=by
 unfold descE
 split
 ·exact Nat.zero_le _
 ·rename_i h1
  have:lenE b<=1048576:=by
   simp only[Bool.or_eq_true,not_or,decide_eq_true_eq] at h1;omega
  repeat' split
  all_goals first|exact this|exact Nat.zero_le _
theorem get_en{tl:TL}(h:∀ x∈tl,x.2.1.en.length=64)(id:BitVec 16):((getA tl id).getD ztx).1.en.length=64:=by
 cases h1:getA tl id with
 | none=>rfl
 | some p=>exact h _ (getA_some h1)
theorem command_st{g:Nat}{s:Ss}{k:Pl}(p:PDU){EA DA:Option Addr}{r1 r2:Option Nat}{ec dc:Nat}(hs:St w0 X (SF g s k (.own 1 r1 EA p.en.length ec (p.en.map v8)::.own 1 r2 DA p.da.length dc (p.da.map v8)::L)) w)(ok:OkP s k)(he:p.en.length=64)(hd:p.da.length<=4194304)(hc:s.c.tr<=1048576)(hl:s.tx.length<=1000)(hl2:s.rp.length<=1000)(hrd:s.rd.length<=8388608)(hb:(commandE s p).out.length<=70368744177664) :
  Calls Tryz.prog 119 #[.pointer (some ⟨g,0,none⟩),.agg (pc p.h EA p.en.length ec DA p.da.length dc).toArray] w fun e w'=>e=.returned (.tuple #[])/\Fin w0 X g (commandE s p) k.h.gr L w':=by
 have hE:At.own 1 r1 EA p.en.length ec (p.en.map v8)∈SF g s k (.own 1 r1 EA p.en.length ec (p.en.map v8)::.own 1 r2 DA p.da.length dc (p.da.map v8)::L):=by simp[SF]
 obtain⟨iE,hiE⟩:=List.mem_iff_getElem?.1 hE
 obtain⟨ge,oe,rfl,rfl⟩:=hs.own_at iE hiE (by omega)
 clear hE hiE iE
 obtain⟨PL,hPL⟩:∃ PL,PL=pc p.h (some ⟨ge,oe,none⟩) p.en.length ec DA p.da.length dc:=⟨_,rfl⟩
 obtain⟨BL,hBL⟩:∃ BL,BL=p.en.map v8:=⟨_,rfl⟩
 obtain⟨L1,hL1⟩:∃ L1,L1=At.own 1 (some ge) (some ⟨ge,oe,none⟩) p.en.length ec (p.en.map v8)::.own 1 r2 DA p.da.length dc (p.da.map v8)::L:=⟨_,rfl⟩
 obtain⟨id,hid⟩:∃ id,id=idE p.en:=⟨_,rfl⟩
 obtain⟨m,hm⟩:∃ m,m=p.da.length:=⟨_,rfl⟩
 obtain⟨dn,hdn⟩:∃ n,n=(descE s.c p.en m).1:=⟨_,rfl⟩
 obtain⟨fine,hfine⟩:∃ n,n=(descE s.c p.en m).2:=⟨_,rfl⟩
 obtain⟨dr,hdr⟩:∃ n,n=dirE p.en:=⟨_,rfl⟩
 obtain⟨kd,hkd⟩:∃ n,n=at_ p.en 39:=⟨_,rfl⟩
 obtain⟨kz,hkz⟩:∃ n,n=n8 kd:=⟨_,rfl⟩
 obtain⟨b1,hb1⟩:∃ b,b=(getA k.tl id).isSome:=⟨_,rfl⟩
 obtain⟨b2,hb2⟩:∃ b,b=(getA s.rp id).isSome:=⟨_,rfl⟩
 obtain⟨n0,hn0⟩:∃ n,n=(getA s.rp id).getD 0:=⟨_,rfl⟩
 obtain⟨TZ,hTZ⟩:∃ T,T=txv ((getA k.tl id).getD ztx):=⟨_,rfl⟩
 obtain⟨nt,hnt⟩:∃ n,n=s.tx.length:=⟨_,rfl⟩
 obtain⟨nr,hnr⟩:∃ n,n=s.rp.length:=⟨_,rfl⟩
 obtain⟨ns,hns⟩:∃ n,n=nt+nr:=⟨_,rfl⟩
 obtain⟨os,hos⟩:∃ n,n=s.c.os:=⟨_,rfl⟩
 obtain⟨nu,hnu⟩:∃ n,n=num ((p.en.drop 2).take 2):=⟨_,rfl⟩
 have hnt2:k.tl.length=nt:=by rw[hnt,ok.tx];exact(len_mapA _ k.tl).symm
 have HLT:=Lib.hid (show(tPs k.tl).length=nt by rw[<-hnt2];exact len_toP _ _)
 have HLR:=Lib.hid (show(rPs s.rp).length=nr by rw[hnr];exact len_toP _ _)
 have HGT:=Lib.hid (get_tPs k.tl id)
 have HGR:=Lib.hid (get_rPs s.rp id)
 rw[<-hTZ,<-hb1] at HGT;rw[<-hn0,<-hb2] at HGR
 have PLL:=Lib.hid (show PL.length=14 by rw[hPL];rfl)
 have P3:=Lib.hid (show PL[3]? = some (.slice (some ⟨ge,oe,none⟩) 64 ec) by rw[hPL,he];rfl)
 have P13:=Lib.hid (show PL[13]? = some (.slice DA m dc) by rw[hPL,hm];rfl)
 have BLL:=Lib.hid (show BL.length=64 by rw[hBL,List.length_map,he])
 have BLO:=Lib.hid (show ∀ v∈BL,v.oneCell'=true by rw[hBL];exact v8_one _)
 have B39:=Lib.hid (show BL[39]? = some (.int .u8 kz) by rw[hBL,hkz,hkd];exact Pd.v8_at p.en 39 (by omega))
 have TZL:=Lib.hid (show TZ.length=68 by rw[hTZ];exact txv_len _ (get_en ok.en id))
 have TZO:=Lib.hid (show ∀ v∈TZ,v.oneCell'=true by rw[hTZ];exact txv_one _)
 have S6:=Lib.hid (show(scl s k.h)[6]? = some (iv os) by rw[hos];exact(scl_at s k.h).2.2.1)
 have S15:=Lib.hid (scl_at s k.h).2.2.2.2.2.1
 have S16:=Lib.hid (scl_at s k.h).2.2.2.2.2.2.1
 have RE:=Lib.hid (show ∀ (N:List At),Reads (N++SF g s k L1) (some ⟨ge,oe,none⟩) BL from fun N=>Reads.app (Reads.mono (L:=[At.own 1 (some ge) (some ⟨ge,oe,none⟩) p.en.length ec (p.en.map v8)]) (by rw[hBL];exact Reads.own 0 rfl) (by rw[hL1];simp[SF])) N)
 have CN:=Lib.hid (show ∀ (g1:Nat) (L':List At) (w:World),St w0 X (.blk g1 37 BL::L') w->Calls Tryz.prog 153 #[.slice (some ⟨g1,2,none⟩) 2 62] w fun e w'=>e=.returned (iv nu)/\St w0 X (.blk g1 37 BL::L') w' by
  intro g1 L' w hs;rw[hBL] at hs ⊢;rw[hnu];exact number_st ((p.en.drop 2).take 2) hs (sub_reads p.en 2 2 g1 _ L') (sub_len p.en he 2 2 (by omega)) (by omega))
 have CD:=Lib.hid (show ∀ (N:List At) (w:World),St w0 X (N++SF g s k L1) w->Calls Tryz.prog 154 #[.pointer (some ⟨g,0,none⟩),.agg BL.toArray,.int .i64 (m:Nat)] w fun e w'=>e=.returned (.tuple #[iv dn,.bool fine])/\St w0 X (N++SF g s k L1) w' by
  intro N w hs;rw[hBL,hdn,hfine];exact descF N hs p.en he m)
 have CR:=Lib.hid (show ∀ (L':List At) (w:World),St w0 X L' w->Calls Tryz.prog 155 #[.agg BL.toArray] w fun e w'=>e=.returned (iv dr)/\St w0 X L' w' by
  intro L' w hs;rw[hBL,hdr];exact direction_st hs p.en he)
 have NU:IntKind.u16.wrap (nu:Int)=n16 id:=by rw[hid,hnu];exact n16_nat _
 have OK:=Lib.hid ok
 have HB:=Lib.hid hb
 have HSP:=Lib.hid (show commandE s p=if b1 || b2 then endE s 2 else if os<=ns then endE s 5 else if fine=false then endE s 4 else if dr=1/\kz=90/\0<lenE p.en then askE s id ⟨p.en,tagE s.tx (s.tx.length+1) 0#16,lenE p.en,[],0⟩ else if dr=2 then requestE s id p.en [] (lenE p.en) else requestE s id p.en p.da 0 by
  unfold commandE;rw[<-hid,<-hdr,hb1,hb2,hns,hnt,hnr,hos,hfine,hm,hkz,hkd,ok.tx,get_txs,Option.isSome_map]
  congr 4
  rw[show(at_ p.en 39=90#8)=(n8 (at_ p.en 39)=90) from propext (n8_lit _ 90 (by omega))])
 have HLE:=Lib.hid (show fine=true->dr=1\/dr=2->dn=lenE p.en by
  rw[hfine,hdr,hdn];exact desc_len s.c p.en m)
 have HDN:=Lib.hid (show dn<=1048576 by rw[hdn];exact desc_le _ _ _)
 have FIN:=Lib.hid (show ∀ (s':Ss) (w':World),Fin w0 X g s' k.h.gr L1 w'->Fin w0 X g s' k.h.gr L w' by
  intro s' w' h;rw[hL1] at h;exact h.sub (List.Sublist.cons _ (List.Sublist.cons _ (List.Sublist.refl _))))
 have HGN:=Lib.hid (show getA k.tl id=none\/b1=true by
  rw[hb1]
  cases getA k.tl id <;> simp)
 have HTL:=Lib.hid (show k.tl.length<=60000 by omega)
 have HTR:=Lib.hid hc
 have HRD:=Lib.hid hrd
 have HEN:=Lib.hid he
 have HBL:=Lib.hid hBL
 have HM:=Lib.hid hm
 have HL1:=Lib.hid hL1
 have W1:IntKind.i64.wrap ((nt:Int)+(nr:Int))=(ns:Int):=by rw[IntWalk.i64_in _ (by omega)];omega
 have hs2:St w0 X (SF g s k L1) w:=by rw[hL1];exact hs
 rw[<-hPL];clear hs hPL hBL hid hm hdn hfine hdr hkd hkz hb1 hb2 hn0 hTZ hnt hnr hns hos hnu hnt2
 have hs:=hs2
 clear hs2
 go_enter Tryz.func119,Tryz.ntmps119
 go_upto_region 2 with (first|((with_reducible refine Se.iL 13 ?_);(refine Se.Ld hs rfl rfl (Cell.blk 0 rfl P3.out) ?_))|((with_reducible refine Se.iL 15 ?_);(refine Se.Ldw hs rfl rfl (RE.out [_]) (by rw[BLL.out];kernel_rfl) ?_))|((with_reducible refine Se.iL 4 ?_);(refine Se.Al hs rfl (arr_z) ?_;clear hs;rintro w g4-hs))|((with_reducible refine Se.iN ?_);(refine Se.Sow 0 hs rfl rfl rfl rfl (BLO.out) (by rw[BLL.out];kernel_rfl) (by rw[BLL.out];rfl) ?_;clear hs;intro w hs;try simp only[pS] at hs))|((first|with_reducible refine Se.ab hs ?_|with_reducible refine Se.abc hs ?_);clear hs;(first|(generalize w.heap.size=g3;intro w hs))))
 go_upto_region 5 with (first|((with_reducible refine Se.iL 23 ?_);(refine Se.Ld hs rfl rfl (Cell.blk 2 rfl S15.out) ?_))|((with_reducible refine Se.iL 25 ?_);(refine Se.toL rfl (Se.mlq (o:=⟨some 25,_,_,_,_,_⟩) hs rfl rfl rfl (List.mem_of_getElem? (i:=4) rfl) Tryz.underlying109 Tryz.underlying40 (tx_z2) (HGT.out.1) (HGT.out.2) ?_)))|((with_reducible refine Se.iL 6 ?_);(refine Se.Al hs rfl (tx_z) ?_;clear hs;rintro w g6-hs))|((with_reducible refine Se.isL (o:=⟨none,Op.store 180 _ _,_,_,_,_⟩) ?_);(refine Se.Sow 0 hs rfl rfl rfl rfl (TZO.out) (by rw[TZL.out];kernel_rfl) (by rw[TZL.out];rfl) ?_;clear hs;intro w hs;try simp only[pS] at hs))|((with_reducible refine Se.iL 32 ?_);(refine Se.Ld hs rfl rfl (Cell.blk 3 rfl S16.out) ?_))|((with_reducible refine Se.iL 34 ?_);(refine Se.toL rfl (Se.mlq (o:=⟨some 34,_,_,_,_,_⟩) hs rfl rfl rfl (List.mem_of_getElem? (i:=6) rfl) Tryz.underlying110 Tryz.underlying40 (int_z2) (HGR.out.1) (HGR.out.2) ?_)))|(go_at_call 153;refine Calls.mono (CN.out _ _ _ hs) ?_;clear hs;rintro e w ⟨rfl,hs⟩))
 go_upto_region 7 with (first|((with_reducible refine Se.iL 39 ?_);(refine Se.Ldw hs rfl rfl (Reads.blk 1 rfl) (by rw[BLL.out];kernel_rfl) ?_))|((with_reducible refine Se.iL 41 ?_);(refine Se.Ld hs rfl rfl (Cell.blk 2 rfl P13.out) ?_))|(go_at_call 154;refine Calls.mono (CD.out [_,_,_] _ hs) ?_;clear hs;rintro e w ⟨rfl,hs⟩))
 clear CN CD HGT HGR RE
 cases b1 with
 | true =>
  have E:=Lib.hid (show commandE s p=endE s 2 by rw[HSP.out];simp[])
  have CE:Hid (∀ (N:List At) w,St w0 X (N++SF g s k L1) w->Calls Tryz.prog 89 #[.pointer (some ⟨g,0,none⟩),.int .i64 2] w fun e w'=>e=.returned (.tuple #[])/\Fin w0 X g (commandE s p) k.h.gr L1 w'):=Lib.hid (fun N w hs=>by rw[E.out];exact endF N hs OK.out 2 (by rw[<-E.out];exact HB.out))
  clear E HSP
  go_wp2_with (first|(go_at_call 89;refine Calls.mono (CE.out [_,_,_] _ hs) ?_;clear hs;rintro e w ⟨rfl,hs⟩))
  refine bodyPost_end (results_none rfl _ _ _) rfl ?_;exact⟨rfl,FIN.out _ _ hs⟩
 | false =>
 cases b2 with
 | true =>
  have E:=Lib.hid (show commandE s p=endE s 2 by rw[HSP.out];simp[])
  have CE:Hid (∀ (N:List At) w,St w0 X (N++SF g s k L1) w->Calls Tryz.prog 89 #[.pointer (some ⟨g,0,none⟩),.int .i64 2] w fun e w'=>e=.returned (.tuple #[])/\Fin w0 X g (commandE s p) k.h.gr L1 w'):=Lib.hid (fun N w hs=>by rw[E.out];exact endF N hs OK.out 2 (by rw[<-E.out];exact HB.out))
  clear E HSP
  go_wp2_with (first|(go_at_call 89;refine Calls.mono (CE.out [_,_,_] _ hs) ?_;clear hs;rintro e w ⟨rfl,hs⟩))
  refine bodyPost_end (results_none rfl _ _ _) rfl ?_;exact⟨rfl,FIN.out _ _ hs⟩
 | false =>
 go_upto_region 9 with (fail)
 refine Ch.region' 18 (fun wx=>Blk wx g (scl s k.h) 112/\Se.MP wx k.h.gt .u16 (tPs k.tl)/\Se.MP wx k.h.gp .u16 (rPs s.rp)) (fun |_=>false) (by kernel_rfl) (by decide +kernel) (⟨hs.drew.hold (qS g s k.h) (by simp[SF]),hs.drew.hold (mp k.h.gt .u16 (tPs k.tl)) (by simp[SF]),hs.drew.hold (mp k.h.gp .u16 (rPs s.rp)) (by simp[SF])⟩) ?_;replace hs:=hs.drew;generalize w.drew=w at hs ⊢;change Ch.CW _ _ _ _ _ [0,1,2,3,4,5,6,7,8,9,10,11,12,13,14,15,16,17] _ _
 iterate 18 ((first|refine Ch.pA ?_|refine Ch.pE (hv:=fun wx hS=>Se.xL (hc:=((hS.1.cell _).trans S15.out))) (h:=?_)|refine Ch.pE (hv:=fun wx hS=>Se.xL (hc:=((hS.1.cell _).trans S16.out))) (h:=?_)|refine Ch.pE (hv:=fun wx hS=>Se.xL (hc:=((hS.1.cell _).trans S6.out))) (h:=?_)|refine Ch.pE (hv:=fun wx hS=>Se.xmln rfl rfl hS.2.1 Tryz.underlying109 HLT.out) (h:=?_)|refine Ch.pE (hv:=fun wx hS=>Se.xmln rfl rfl hS.2.2 Tryz.underlying110 HLR.out) (h:=?_));(try simp only[pU]))
 refine Ch.done ?_
 try simp only[List.drop_succ_cons,List.drop_zero]
 by_cases hos:os<=ns
 ·have hos':(os:Int)<=(ns:Int):=by omega
  have E:=Lib.hid (show commandE s p=endE s 5 by rw[HSP.out];simp[hos])
  have CE:Hid (∀ (N:List At) w,St w0 X (N++SF g s k L1) w->Calls Tryz.prog 89 #[.pointer (some ⟨g,0,none⟩),.int .i64 5] w fun e w'=>e=.returned (.tuple #[])/\Fin w0 X g (commandE s p) k.h.gr L1 w'):=Lib.hid (fun N w hs=>by rw[E.out];exact endF N hs OK.out 5 (by rw[<-E.out];exact HB.out))
  clear E HSP
  go_wp2_with (first|(go_at_call 89;refine Calls.mono (CE.out [_,_,_] _ hs) ?_;clear hs;rintro e w ⟨rfl,hs⟩))
  refine bodyPost_end (results_none rfl _ _ _) rfl ?_;exact⟨rfl,FIN.out _ _ hs⟩
 ·have hos':¬ (os:Int)<=(ns:Int):=by omega
  have HSP2:=Lib.hid (show commandE s p=if fine=false then endE s 4 else if dr=1/\kz=90/\0<lenE p.en then askE s id ⟨p.en,tagE s.tx (s.tx.length+1) 0#16,lenE p.en,[],0⟩ else if dr=2 then requestE s id p.en [] (lenE p.en) else requestE s id p.en p.da 0 by rw[HSP.out];simp[hos])
  clear HSP hos W1
  have HSP:=HSP2
  clear HSP2
  cases fine with
  | false =>
   have E:=Lib.hid (show commandE s p=endE s 4 by rw[HSP.out];simp[])
   have CE:Hid (∀ (N:List At) w,St w0 X (N++SF g s k L1) w->Calls Tryz.prog 89 #[.pointer (some ⟨g,0,none⟩),.int .i64 4] w fun e w'=>e=.returned (.tuple #[])/\Fin w0 X g (commandE s p) k.h.gr L1 w'):=Lib.hid (fun N w hs=>by rw[E.out];exact endF N hs OK.out 4 (by rw[<-E.out];exact HB.out))
   clear E HSP
   go_wp2_with (first|(go_at_call 89;refine Calls.mono (CE.out [_,_,_] _ hs) ?_;clear hs;rintro e w ⟨rfl,hs⟩))
   refine bodyPost_end (results_none rfl _ _ _) rfl ?_;exact⟨rfl,FIN.out _ _ hs⟩
  | true =>
  by_cases hd1:dr=1
  ·have hd1i:(dr:Int)=1:=by omega
   have HDE:=Lib.hid (show dn=lenE p.en from HLE.out rfl (.inl hd1))
   by_cases hk:kz=90
   ·have hkb:(kz==90)=true:=by simpa using hk
    by_cases hn0:0<dn
    ·have hn0':(0:Int)<(dn:Int):=by omega
     have E:=Lib.hid (show commandE s p=askE s id ⟨p.en,tagE s.tx (s.tx.length+1) 0#16,lenE p.en,[],0⟩ by rw[HSP.out,if_neg (by decide),if_pos ⟨hd1,hk,by rw[<-HDE.out];exact hn0⟩])
     obtain⟨tg,htg⟩:∃ t,t=tagE s.tx (s.tx.length+1) 0#16:=⟨_,rfl⟩
     obtain⟨TV,hTV⟩:∃ T,T=txv (⟨p.en,tg,dn,[],0⟩,({}:Th)):=⟨_,rfl⟩
     have BT:=Lib.hid (show ∀ w,(Instr.build 180 #[(0,.agg BL.toArray),(1,.int .u16 (n16 tg)),(2,.int .i64 (dn:Nat))]).run Tryz.prog w=.ok (.agg TV.toArray) w by intro w;rw[hTV];unfold txv;rw[HBL.out];exact bd_tx _ (by rw[<-HBL.out];exact BLL.out) _ _ w)
     have CT:Hid (∀ (N:List At) w,St w0 X (N++SF g s k L1) w->Calls Tryz.prog 157 #[.pointer (some ⟨g,0,none⟩)] w fun e w'=>e=.returned (.int .u16 (n16 tg))/\St w0 X (N++SF g s k L1) w'):=Lib.hid (fun N w hs=>by rw[htg];exact tagF N hs OK.out HTL.out)
     have CA:Hid (∀ (N:List At) w,St w0 X (N++SF g s k L1) w->Calls Tryz.prog 156 #[.pointer (some ⟨g,0,none⟩),.int .u16 (n16 id),.agg TV.toArray] w fun e w'=>e=.returned (.tuple #[])/\Fin w0 X g (commandE s p) k.h.gr L1 w'):=Lib.hid (fun N w hs=>by
      have hbx:=HB.out
      rw[E.out,<-htg,<-HDE.out] at hbx;rw[E.out,hTV,<-htg,<-HDE.out]
      have h1:=(hs.nil_own 1 none).perm (L':=N++(qS g s k.h::qU k.ro s k.h::mp k.h.gt .u16 (tPs k.tl)::mp k.h.gp .u16 (rPs s.rp)::.own 67 k.rq k.h.RB s.rd.length k.h.rc (rqs k.rl)::((.own 1 none none 0 0 []::tAs k.tl)++(qAs k.rl++L1)))) (by
       refine List.Perm.trans (List.perm_append_comm_assoc [_] N _) (List.Perm.append_left _ ?_);exact(List.perm_append_comm_assoc [_] [_,_,_,_,_] _))
      refine askF N id (⟨p.en,tg,dn,[],0⟩,({}:Th)) h1 OK.out HEN.out (Nat.zero_le _) HDN.out HTR.out hbx ?_;rw[put_none _ (HGN.out.resolve_right (by decide))];unfold tAs;rw[List.map_append];exact List.perm_append_comm (l₁:=[_]))
     clear E HSP htg hTV
     go_upto_region 14 with (first|((with_reducible refine Se.iL 85 ?_);(refine Se.Ldw hs rfl rfl (Reads.blk 1 rfl) (by rw[BLL.out];kernel_rfl) ?_))|((with_reducible refine Se.iL 90 ?_);(refine Se.Ld hs rfl rfl (Cell.blk 1 rfl B39.out) ?_))|(go_at_call 155;refine Calls.mono (CR.out _ _ hs) ?_;clear hs;rintro e w ⟨rfl,hs⟩))
     refine Ch.region' 7 (fun wx=>Blk wx g4 BL 37) (fun|4=>true|_=>false) (by kernel_rfl) (by decide +kernel) (hs.drew.hold (.blk g4 37 BL) (by simp)) ?_;replace hs:=hs.drew;generalize w.drew=w at hs ⊢;change Ch.CW _ _ _ _ _ [0,1,2,3,4,5,6] _ _
     iterate 4 ((first|refine Ch.pA ?_|refine Ch.pE (hv:=fun wx hS=>Se.xR (hr:=(Li.Rd.of_blk hS)) (hi:=(by rw[BLL.out];kernel_rfl))) (h:=?_));(try simp only[pU]))
     refine Ch.cA (f:=157) (args:=#[.pointer (some ⟨g,0,none⟩)]) (CT.out [_,_,_] _ hs) ?_;clear hs;rintro e w⟨rfl,hs⟩;refine⟨_,rfl,hs.hold (.blk g4 37 BL) (by simp),?_⟩;(try simp only[pU])
     iterate 1 (refine Ch.pA ?_;(try simp only[pU]))
     refine Ch.pE (v:=.agg TV.toArray) (hv:=fun wx hS=>Pd.xbd rfl (vs:=[(0,.agg BL.toArray),(1,.int .u16 (n16 tg)),(2,.int .i64 (dn:Nat))]) rfl (BT.out _)) (h:=?_);(try simp only[pU]);refine Ch.done ?_
     try simp only[List.drop_succ_cons,List.drop_zero]
     go_wp2_with (first|(go_at_call 156;refine Calls.mono (CA.out [_,_,_] _ hs) ?_;clear hs;rintro e w ⟨rfl,hs⟩))
     refine bodyPost_end (results_none rfl _ _ _) rfl ?_;exact⟨rfl,FIN.out _ _ hs⟩
    ·have hn0':¬ (0:Int)<(dn:Int):=by omega
     have E:=Lib.hid (show commandE s p=requestE s id p.en p.da 0 by rw[HSP.out,if_neg (by decide),if_neg (fun h=>hn0 (by rw[HDE.out];exact h.2.2)),if_neg (by omega)])
     have CQ:Hid (∀ (N:List At) w,St w0 X (N++SF g s k L1) w->Calls Tryz.prog 158 #[.pointer (some ⟨g,0,none⟩),.int .u16 (n16 id),.agg BL.toArray,.slice DA m dc,.int .i64 0] w fun e w'=>e=.returned (.tuple #[])/\Fin w0 X g (commandE s p) k.h.gr L w'):=Lib.hid (fun N w hs=>by
      rw[E.out,HBL.out,HM.out];rw[HL1.out] at hs
      have h1:=hs.perm (L':=N++SF g s k (.own 1 r2 DA p.da.length dc (p.da.map v8)::.own 1 (some ge) (some ⟨ge,oe,none⟩) p.en.length ec (p.en.map v8)::L)) (List.Perm.append_left _ (SF_perm (List.Perm.swap _ _ _)))
      refine(requestF N ⟨id,p.en,p.da,0⟩ ⟨r2,DA,dc⟩ h1 OK.out HRD.out HEN.out).mono ?_;rintro e w' ⟨h2,h3⟩;exact⟨h2,h3.sub (List.sublist_cons_self _ _)⟩)
     clear E HSP
     go_wp2_with (first|((with_reducible refine Se.iL 85 ?_);(refine Se.Ldw hs rfl rfl (Reads.blk 1 rfl) (by rw[BLL.out];kernel_rfl) ?_))|((with_reducible refine Se.iL 106 ?_);(refine Se.Ldw hs rfl rfl (Reads.blk 1 rfl) (by rw[BLL.out];kernel_rfl) ?_))|((with_reducible refine Se.iL 90 ?_);(refine Se.Ld hs rfl rfl (Cell.blk 1 rfl B39.out) ?_))|((with_reducible refine Se.iL 48 ?_);(refine Se.Ldw hs rfl rfl (Reads.blk 1 rfl) (by rw[BLL.out];kernel_rfl) ?_))|((with_reducible refine Se.iL 50 ?_);(refine Se.Ld hs rfl rfl (Cell.blk 2 rfl P13.out) ?_))|(go_at_call 155;refine Calls.mono (CR.out _ _ hs) ?_;clear hs;rintro e w ⟨rfl,hs⟩)|(go_at_call 158;refine Calls.mono (CQ.out [_,_,_] _ hs) ?_;clear hs;rintro e w ⟨rfl,hs⟩))
     refine bodyPost_end (results_none rfl _ _ _) rfl ?_;exact⟨rfl,hs⟩
   ·have hkb:(kz==90)=false:=by simpa using hk
    have E:=Lib.hid (show commandE s p=requestE s id p.en p.da 0 by rw[HSP.out,if_neg (by decide),if_neg (fun h=>hk h.2.1),if_neg (by omega)])
    have CQ:Hid (∀ (N:List At) w,St w0 X (N++SF g s k L1) w->Calls Tryz.prog 158 #[.pointer (some ⟨g,0,none⟩),.int .u16 (n16 id),.agg BL.toArray,.slice DA m dc,.int .i64 0] w fun e w'=>e=.returned (.tuple #[])/\Fin w0 X g (commandE s p) k.h.gr L w'):=Lib.hid (fun N w hs=>by
     rw[E.out,HBL.out,HM.out];rw[HL1.out] at hs
     have h1:=hs.perm (L':=N++SF g s k (.own 1 r2 DA p.da.length dc (p.da.map v8)::.own 1 (some ge) (some ⟨ge,oe,none⟩) p.en.length ec (p.en.map v8)::L)) (List.Perm.append_left _ (SF_perm (List.Perm.swap _ _ _)))
     refine(requestF N ⟨id,p.en,p.da,0⟩ ⟨r2,DA,dc⟩ h1 OK.out HRD.out HEN.out).mono ?_;rintro e w' ⟨h2,h3⟩;exact⟨h2,h3.sub (List.sublist_cons_self _ _)⟩)
    clear E HSP
    go_wp2_with (first|((with_reducible refine Se.iL 85 ?_);(refine Se.Ldw hs rfl rfl (Reads.blk 1 rfl) (by rw[BLL.out];kernel_rfl) ?_))|((with_reducible refine Se.iL 106 ?_);(refine Se.Ldw hs rfl rfl (Reads.blk 1 rfl) (by rw[BLL.out];kernel_rfl) ?_))|((with_reducible refine Se.iL 90 ?_);(refine Se.Ld hs rfl rfl (Cell.blk 1 rfl B39.out) ?_))|((with_reducible refine Se.iL 48 ?_);(refine Se.Ldw hs rfl rfl (Reads.blk 1 rfl) (by rw[BLL.out];kernel_rfl) ?_))|((with_reducible refine Se.iL 50 ?_);(refine Se.Ld hs rfl rfl (Cell.blk 2 rfl P13.out) ?_))|(go_at_call 155;refine Calls.mono (CR.out _ _ hs) ?_;clear hs;rintro e w ⟨rfl,hs⟩)|(go_at_call 158;refine Calls.mono (CQ.out [_,_,_] _ hs) ?_;clear hs;rintro e w ⟨rfl,hs⟩))
    refine bodyPost_end (results_none rfl _ _ _) rfl ?_;exact⟨rfl,hs⟩
  ·have hd1i:¬ (dr:Int)=1:=by omega
   have hd1b:((dr:Int)==1)=false:=by simpa using hd1i
   by_cases hd2:dr=2
   ·have hd2i:(dr:Int)=2:=by omega
    have HDE:=Lib.hid (show dn=lenE p.en from HLE.out rfl (.inr hd2))
    have E:=Lib.hid (show commandE s p=requestE s id p.en [] (lenE p.en) by rw[HSP.out,if_neg (by decide),if_neg (fun h=>hd1 h.1),if_pos hd2])
    have CQ:Hid (∀ (N:List At) w,St w0 X (N++SF g s k L1) w->Calls Tryz.prog 158 #[.pointer (some ⟨g,0,none⟩),.int .u16 (n16 id),.agg BL.toArray,.slice none 0 0,iv dn] w fun e w'=>e=.returned (.tuple #[])/\Fin w0 X g (commandE s p) k.h.gr L w'):=Lib.hid (fun N w hs=>by
     rw[E.out,HBL.out,HDE.out]
     have h1:=(hs.nil_own 1 none).perm (L':=N++SF g s k (.own 1 none none 0 0 []::L1)) (by
      refine List.Perm.trans (List.perm_append_comm_assoc [_] N _) (List.Perm.append_left _ ?_);refine(List.perm_append_comm_assoc [_] [_,_,_,_,_] _).trans (List.Perm.cons _ (List.Perm.cons _ (List.Perm.cons _ (List.Perm.cons _ (List.Perm.cons _ ?_)))));refine(List.perm_append_comm_assoc [_] (tAs k.tl) _).trans (List.Perm.append_left _ ?_);exact List.perm_append_comm_assoc [_] (qAs k.rl) _)
     refine(requestF N ⟨id,p.en,[],lenE p.en⟩ {} h1 OK.out HRD.out HEN.out).mono ?_;rintro e w' ⟨h2,h3⟩;exact⟨h2,FIN.out _ _ h3⟩)
    clear E HSP
    go_wp2_with (first|((with_reducible refine Se.iL 85 ?_);(refine Se.Ldw hs rfl rfl (Reads.blk 1 rfl) (by rw[BLL.out];kernel_rfl) ?_))|((with_reducible refine Se.iL 106 ?_);(refine Se.Ldw hs rfl rfl (Reads.blk 1 rfl) (by rw[BLL.out];kernel_rfl) ?_))|((with_reducible refine Se.iL 111 ?_);(refine Se.Ldw hs rfl rfl (Reads.blk 1 rfl) (by rw[BLL.out];kernel_rfl) ?_))|(go_at_call 155;refine Calls.mono (CR.out _ _ hs) ?_;clear hs;rintro e w ⟨rfl,hs⟩)|(go_at_call 158;refine Calls.mono (CQ.out [_,_,_] _ hs) ?_;clear hs;rintro e w ⟨rfl,hs⟩))
    refine bodyPost_end (results_none rfl _ _ _) rfl ?_;exact⟨rfl,hs⟩
   ·have hd2i:¬ (dr:Int)=2:=by omega
    have hd2b:((dr:Int)==2)=false:=by simpa using hd2i
    have E:=Lib.hid (show commandE s p=requestE s id p.en p.da 0 by rw[HSP.out,if_neg (by decide),if_neg (fun h=>hd1 h.1),if_neg hd2])
    have CQ:Hid (∀ (N:List At) w,St w0 X (N++SF g s k L1) w->Calls Tryz.prog 158 #[.pointer (some ⟨g,0,none⟩),.int .u16 (n16 id),.agg BL.toArray,.slice DA m dc,.int .i64 0] w fun e w'=>e=.returned (.tuple #[])/\Fin w0 X g (commandE s p) k.h.gr L w'):=Lib.hid (fun N w hs=>by
     rw[E.out,HBL.out,HM.out];rw[HL1.out] at hs
     have h1:=hs.perm (L':=N++SF g s k (.own 1 r2 DA p.da.length dc (p.da.map v8)::.own 1 (some ge) (some ⟨ge,oe,none⟩) p.en.length ec (p.en.map v8)::L)) (List.Perm.append_left _ (SF_perm (List.Perm.swap _ _ _)))
     refine(requestF N ⟨id,p.en,p.da,0⟩ ⟨r2,DA,dc⟩ h1 OK.out HRD.out HEN.out).mono ?_;rintro e w' ⟨h2,h3⟩;exact⟨h2,h3.sub (List.sublist_cons_self _ _)⟩)
    clear E HSP
    go_wp2_with (first|((with_reducible refine Se.iL 85 ?_);(refine Se.Ldw hs rfl rfl (Reads.blk 1 rfl) (by rw[BLL.out];kernel_rfl) ?_))|((with_reducible refine Se.iL 106 ?_);(refine Se.Ldw hs rfl rfl (Reads.blk 1 rfl) (by rw[BLL.out];kernel_rfl) ?_))|((with_reducible refine Se.iL 48 ?_);(refine Se.Ldw hs rfl rfl (Reads.blk 1 rfl) (by rw[BLL.out];kernel_rfl) ?_))|((with_reducible refine Se.iL 50 ?_);(refine Se.Ld hs rfl rfl (Cell.blk 2 rfl P13.out) ?_))|(go_at_call 155;refine Calls.mono (CR.out _ _ hs) ?_;clear hs;rintro e w ⟨rfl,hs⟩)|(go_at_call 158;refine Calls.mono (CQ.out [_,_,_] _ hs) ?_;clear hs;rintro e w ⟨rfl,hs⟩))
    refine bodyPost_end (results_none rfl _ _ _) rfl ?_;exact⟨rfl,hs⟩
end Sn
end Go.Proofs.YtjnllcnknjlmmaaGreat
