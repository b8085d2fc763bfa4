/- Layer 41. -/
import Derived.Test.YtjnllcnknjlmmaaGreatKa14
set_option linter.unusedSimpArgs false
set_option linter.unusedVariables false
set_option maxRecDepth 100000
set_option maxHeartbeats 4000000
namespace Go.Proofs.YtjnllcnknjlmmaaGreat
open Go Go.RowKit
namespace Se
section
variable {P:Program} {w:World} {o:Oper} {a:Act}
theorem xmlq{ty:TypeId}{m x:Operand}(ho:o.op=.lookup ty m x true){g:Nat}(hm:a.eval m=.map (some g)){kd:IntKind}{z:Int}(hx:a.eval x=.int kd z){l:Ps}(hp:MP w g kd l){kt et:TypeId}(ht:P.underlying ty=some (.map kt et))(hd:P.underlying kt=some (.int kd)){zv:Value}(hz:(P.info? et).bind (·.zero)=some zv){v:Value}{b:Bool}(hv:(getP l z).getD zv=v)(hb:(getP l z).isSome=b):(execOp a.eval o).run P w=.ok (.value (.tuple #[v,.bool b])) w:=by
 obtain⟨es,c,hbk,hst,hks,rfl⟩:=hp
 have hik:MapKept.IsKey (.int kd) (.int kd z):=by simp[MapKept.IsKey]
 cases hi:P.info? et with
 | none=>simp[hi] at hz
 | some i =>
  simp only[hi,Option.bind_some] at hz
  have hr:(Instr.lookup ty (.map (some g)) (.int kd z) true).run P w=.ok (.tuple #[v,.bool b]) w:=by
   rw[<-hv,<-hb]
   rcases find_mp (z:=z) hst hks with ⟨h1,h2,h3⟩|⟨j,e,h1,h2,h3,h4⟩
   ·rw[getP_none h3]
    simp[Instr.lookup,run_underlying ht,MapKept.run_getObj_map hbk,MapKept.run_checkKey hd hik,MapKept.run_findKey hd h1,Result.andThen,zeroValue,typeInfo,hi,hz]
   ·rw[getP_at (by rw[List.map_map];exact nodup_keys hst hks) h4]
    simp[Instr.lookup,run_underlying ht,MapKept.run_getObj_map hbk,MapKept.run_checkKey hd hik,MapKept.run_findKey hd h1,Result.andThen]
  unfold execOp;simp only[ho,hm,hx,Sem.run_bind,hr,Result.andThen_ok,Sem.run_pure]
end
end Se
namespace Sn
open Pd (PDU pc iv)
open Se (St At Reads Cell mp)
open Li (v8 v8_one Rd Blk)
open Bv (n16 n32)
variable {w0 w:World} {X:List Nat} {L:List At}
attribute [local irreducible] Calls
theorem ins_SF{g:Nat}{s:Ss}{k:Pl}{a:At}:(a::SF g s k L).Perm (SF g s k (a::L)) :=
 (List.perm_append_comm_assoc [_] [_,_,_,_,_] _).trans (List.Perm.cons _ (List.Perm.cons _ (List.Perm.cons _ (List.Perm.cons _ (List.Perm.cons _ ((List.perm_append_comm_assoc [_] (tAs k.tl) _).trans (List.Perm.append_left _ (List.perm_append_comm_assoc [_] (qAs k.rl) _))))))))
def SB(g:Nat)(s:Ss)(k:Pl)(m:Se.Ps)(L:List At):List At:=qS g s k.h::qU k.ro s k.h::mp k.h.gt .u16 m::mp k.h.gp .u16 (rPs s.rp)::.own 67 k.rq k.h.RB s.rd.length k.h.rc (rqs k.rl)::L
theorem put_SF(N:List At){g:Nat}{s:Ss}{k:Pl}{id:BitVec 16}{p:Tx × Th}(hs:St w0 X (N++(tA p::SB g s k (tPs (putA k.tl id p)) (tAs (delA k.tl id)++(qAs k.rl++L)))) w)(hn:(k.tl.map (·.1)).Nodup):St w0 X (N++SF g s { k with tl:=putA k.tl id p } L) w:=by
 refine hs.perm (List.Perm.append_left _ ?_);refine(List.perm_append_comm_assoc [_] [_,_,_,_,_] _).trans (List.Perm.cons _ (List.Perm.cons _ (List.Perm.cons _ (List.Perm.cons _ (List.Perm.cons _ ?_)))));exact(List.Perm.append_right (qAs k.rl++L) (tAs_perm (perm_put p hn))).symm
theorem get_SF(N:List At){g:Nat}{s:Ss}{k:Pl}{id:BitVec 16}{p:Tx × Th}(hs:St w0 X (N++SF g s k L) w)(hn:(k.tl.map (·.1)).Nodup)(hp:getA k.tl id=some p):St w0 X (N++(tA p::SB g s k (tPs k.tl) (tAs (delA k.tl id)++(qAs k.rl++L)))) w:=by
 refine hs.perm (List.Perm.append_left _ ?_);refine List.Perm.symm ((List.perm_append_comm_assoc [_] [_,_,_,_,_] _).trans (List.Perm.cons _ (List.Perm.cons _ (List.Perm.cons _ (List.Perm.cons _ (List.Perm.cons _ ?_))))));exact(List.Perm.append_right (qAs k.rl++L) (tAs_perm (perm_del hn hp))).symm
theorem txv_da(t:Tx)(h th:Th)(da:Bs)(he:t.en.length=64):(txv (t,h)).set 66 (.slice th.A da.length th.c)=txv ({ t with da:=da },th):=by
 have e:((t,h).1.en.map v8).length=64:=by rw[List.length_map];exact he
 unfold txv;rw[List.set_append_right _ _ (by omega),e]
 rfl
theorem wneq(a b:BitVec 16):(n16 a != n16 b)=decide (a≠b):=by
 by_cases h:a=b
 ·subst h;simp
 ·have:n16 a≠n16 b:=fun e=>h (Bv.n16_inj e)
  simp[h,this]
theorem get_put{α:Type}(l:List (BitVec 16 × α))(k:BitVec 16)(v:α):getA (putA l k v) k=some v:=by
 unfold putA
 split
 ·rename_i h
  induction l with
  | nil=>simp at h
  | cons p l ih =>
   by_cases e:p.1=k
   ·simp[getA,e]
   ·have h2:l.any (fun p=>p.1==k)=true:=by simpa [e] using h
    have:=ih h2
    unfold getA at this ⊢;rw[List.map_cons,List.find?_cons_of_neg (by simp[e])];exact this
 ·rename_i h
  have h2:l.find? (fun p=>p.1==k)=none:=by
   rw[List.find?_eq_none];intro p hp hq;exact h (List.any_eq_true.2 ⟨p,hp,hq⟩)
  unfold getA;rw[List.find?_append,h2];simp
theorem take_en(t:Tx)(th:Th)(he:t.en.length=64):(txv (t,th)).take 64=t.en.map v8:=by
 unfold txv;exact List.take_left' (by rw[List.length_map];exact he)
theorem data_st{g:Nat}{s:Ss}{k:Pl}(p:PDU){EA DA:Option Addr}{r1 r2:Option Nat}{ec dc:Nat}(hs:St w0 X (SF g s k (.own 1 r1 EA p.en.length ec (p.en.map v8)::.own 1 r2 DA p.da.length dc (p.da.map v8)::L)) w)(ok:OkP s k)(hd:p.da.length<=4194304)(hc:s.c.tr<=1048576)(ht:∀ x∈s.tx,x.2.da.length<=x.2.ln/\x.2.ln<=1048576/\x.2.nd<=x.2.ln)(hrd:s.rd.length<=8388608)(hb:(dataE s p).out.length<=70368744177664) :
  Calls Tryz.prog 120 #[.pointer (some ⟨g,0,none⟩),.agg (pc p.h EA p.en.length ec DA p.da.length dc).toArray] w fun e w'=>e=.returned (.tuple #[])/\Fin w0 X g (dataE s p) k.h.gr L w':=by
 have hnd:(k.tl.map (·.1)).Nodup:=nodup_toP (f:=fun p=>.agg (txv p).toArray) (Se.MP.nodup (hs.hold (mp k.h.gt .u16 (tPs k.tl)) (by simp[SF])))
 obtain⟨PL,hPL⟩:∃ PL,PL=pc p.h EA p.en.length ec DA p.da.length dc:=⟨_,rfl⟩
 obtain⟨id,hid⟩:∃ id,id=p.h.id:=⟨_,rfl⟩
 obtain⟨ptg,hptg⟩:∃ id,id=p.h.tg:=⟨_,rfl⟩
 obtain⟨pof,hpof⟩:∃ id,id=p.h.of:=⟨_,rfl⟩
 obtain⟨la,hla⟩:∃ id,id=p.h.la:=⟨_,rfl⟩
 obtain⟨m,hm⟩:∃ m,m=p.da.length:=⟨_,rfl⟩
 obtain⟨md,hmd⟩:∃ m,m=s.c.md:=⟨_,rfl⟩
 obtain⟨b1,hb1⟩:∃ b,b=(getA k.tl id).isSome:=⟨_,rfl⟩
 obtain⟨TZ,hTZ⟩:∃ T,T=txv ((getA k.tl id).getD ztx):=⟨_,rfl⟩
 obtain⟨t,hteq⟩:∃ t,t=((getA k.tl id).getD ztx):=⟨_,rfl⟩
 obtain⟨at0,hat⟩:∃ n,n=t.1.da.length:=⟨_,rfl⟩
 obtain⟨tn,hto⟩:∃ n,n=at0+m:=⟨_,rfl⟩
 obtain⟨nd,hndd⟩:∃ n,n=t.1.nd:=⟨_,rfl⟩
 obtain⟨ln,hln⟩:∃ n,n=t.1.ln:=⟨_,rfl⟩
 obtain⟨ttg,httg⟩:∃ n,n=t.1.tg:=⟨_,rfl⟩
 have hte:t.1.en.length=64:=by rw[hteq];exact get_en ok.en id
 have htt:t.1.da.length<=t.1.ln/\t.1.ln<=1048576/\t.1.nd<=t.1.ln:=by
  rw[hteq]
  cases h1:getA k.tl id with
  | none=>exact⟨Nat.le_refl _,Nat.zero_le _,Nat.le_refl _⟩
  | some q =>
   have h2:=getA_some h1
   refine ht (id,q.1) ?_;rw[ok.tx];exact List.mem_map.2 ⟨(id,q),h2,rfl⟩
 have HGT:=Lib.hid (get_tPs k.tl id)
 rw[<-hTZ,<-hb1] at HGT
 have PLL:=Lib.hid (show PL.length=14 by rw[hPL];rfl)
 have P1:=Lib.hid (show PL[1]? = some (.bool la) by rw[hPL,hla];rfl)
 have P4:=Lib.hid (show PL[4]? = some (.int .u16 (n16 id)) by rw[hPL,hid];rfl)
 have P5:=Lib.hid (show PL[5]? = some (.int .u16 (n16 ptg)) by rw[hPL,hptg];rfl)
 have P6:=Lib.hid (show PL[6]? = some (.int .u32 (n32 pof)) by rw[hPL,hpof];rfl)
 have P13:=Lib.hid (show PL[13]? = some (.slice DA m dc) by rw[hPL,hm];rfl)
 rw[<-hteq] at hTZ
 have TZL:=Lib.hid (show TZ.length=68 by rw[hTZ];exact txv_len _ hte)
 have TZO:=Lib.hid (show ∀ v∈TZ,v.oneCell'=true by rw[hTZ];exact txv_one _)
 have T64:=Lib.hid (show TZ[64]? = some (.int .u16 (n16 ttg)) by rw[hTZ,httg];exact(txv_at t hte).1)
 have T65:=Lib.hid (show TZ[65]? = some (iv ln) by rw[hTZ,hln];exact(txv_at t hte).2.1)
 have T66:=Lib.hid (show TZ[66]? = some (.slice t.2.A at0 t.2.c) by rw[hTZ,hat];exact(txv_at t hte).2.2.1)
 have T67:=Lib.hid (show TZ[67]? = some (iv nd) by rw[hTZ,hndd];exact(txv_at t hte).2.2.2)
 have S4:=Lib.hid (show(scl s k.h)[4]? = some (iv md) by rw[hmd];exact(scl_at s k.h).2.1)
 have S15:=Lib.hid (scl_at s k.h).2.2.2.2.2.1
 have OK:=Lib.hid ok
 have HB:=Lib.hid hb
 have HND:=Lib.hid hnd
 have HTE:=Lib.hid hte
 have HRD:=Lib.hid hrd
 have HTR:=Lib.hid hc
 have HM:=Lib.hid hm
 have HAT:=Lib.hid hat
 have HLNE:=Lib.hid hln
 have HTZ:=Lib.hid hTZ
 have W1:IntKind.i64.wrap ((at0:Int)+(m:Int))=(tn:Int):=by rw[IntWalk.i64_in _ (by omega)];omega
 have HTT:=Lib.hid (show at0<=ln/\ln<=1048576/\nd<=ln/\tn=at0+m by rw[hat,hln,hndd];exact⟨htt.1,htt.2.1,htt.2.2,by rw[hto,hat]⟩)
 have HGA:=Lib.hid (show b1=true->getA k.tl id=some t by
  rw[hb1,hteq]
  cases getA k.tl id <;> simp)
 obtain⟨t2,ht2⟩:∃ t2:Tx,t2={ t.1 with da:=t.1.da++p.da }:=⟨_,rfl⟩
 have HT2:=Lib.hid ht2
 have HSP:=Lib.hid (show dataE s p=if b1=false then endE s 2 else if ttg≠ptg then endE s 2 else if md<m\/pof.toNat≠at0\/nd<tn\/la≠decide (tn=nd) then endE s 4 else if tn=ln then requestE { s with tx:=txs (delA k.tl id) } id t.1.en t2.da 0 else if tn=nd then askE { s with tx:=putA s.tx id t2 } id t2 else { s with tx:=putA s.tx id t2 } by
  unfold dataE;rw[<-hid,ok.tx,get_txs,hb1]
  cases h1:getA k.tl id with
  | none=>rfl
  | some q =>
   have h2:t=q:=by rw[hteq,h1];rfl
   simp only[Option.map_some,Option.isSome_some];rw[if_neg (show ¬ true=false by decide),<-h2,<-hptg,<-hpof,<-hla,<-hm,<-hmd,<-httg,<-hat,<-hndd,<-hln,<-hto];rw[del_put,del_txs,ht2,httg,hln,hndd])
 rw[<-hPL];clear hPL hid hptg hpof hla hm hmd hb1 hTZ hteq hat hto hndd hln httg hte htt ht hb hnd hc hrd
 go_enter Tryz.func120,Tryz.ntmps120
 go_upto_region 1 with (first|((first|with_reducible refine Se.ab hs ?_|with_reducible refine Se.abc hs ?_);clear hs;(first|(generalize w.heap.size=g3;intro w hs))))
 refine Ch.region' 13 (fun wx=>Blk wx g3 PL 65/\Blk wx g (scl s k.h) 112/\Se.MP wx k.h.gt .u16 (tPs k.tl)) (fun|10=>true|11=>true|_=>false) (by kernel_rfl) (by decide +kernel) (⟨hs.drew.hold (.blk g3 65 PL) (by simp),hs.drew.hold (qS g s k.h) (by simp[SF]),hs.drew.hold (mp k.h.gt .u16 (tPs k.tl)) (by simp[SF])⟩) ?_;replace hs:=hs.drew;generalize w.drew=w at hs ⊢;change Ch.CW _ _ _ _ _ [0,1,2,3,4,5,6,7,8,9,10,11,12] _ _
 iterate 7 ((first|refine Ch.pA ?_|refine Ch.pE (hv:=fun wx hS=>Se.xL (hc:=((hS.1.cell _).trans P4.out))) (h:=?_)|refine Ch.pE (hv:=fun wx hS=>Se.xL (hc:=((hS.2.1.cell _).trans S15.out))) (h:=?_)|refine Ch.pE (hv:=fun wx hS=>Se.xmlq rfl rfl rfl hS.2.2 Tryz.underlying109 Tryz.underlying40 tx_z2 HGT.out.1 HGT.out.2) (h:=?_));(try simp only[pU]))
 iterate 3 (refine Ch.pA ?_;(try simp only[pU]))
 refine Ch.nA (h:=Se.al hs rfl (tx_z) ?_);clear hs;rintro w g4-hs;refine⟨⟨hs.hold (.blk g3 65 PL) (by simp),hs.hold (qS g s k.h) (by simp[SF]),hs.hold (mp k.h.gt .u16 (tPs k.tl)) (by simp[SF])⟩,?_⟩;(try simp only[pU]);refine Ch.nA (h:=Se.sow 0 (vs:=TZ) hs rfl rfl rfl rfl TZO.out (by rw[TZL.out];kernel_rfl) (by rw[TZL.out];rfl) ?_);clear hs;intro w hs;simp only[pS] at hs;refine⟨⟨hs.hold (.blk g3 65 PL) (by simp),hs.hold (qS g s k.h) (by simp[SF]),hs.hold (mp k.h.gt .u16 (tPs k.tl)) (by simp[SF])⟩,?_⟩;(try simp only[pU])
 iterate 1 (refine Ch.pA ?_;(try simp only[pU]))
 refine Ch.done ?_
 try simp only[List.drop_succ_cons,List.drop_zero]
 go_upto_region 4 with (first|((with_reducible refine Se.iL 19 ?_);(refine Se.Ld hs rfl rfl (Cell.blk 0 rfl T66.out) ?_))|((with_reducible refine Se.iL 23 ?_);(refine Se.Ld hs rfl rfl (Cell.blk 1 rfl P13.out) ?_)))
 cases b1 with
 | false =>
  have E:=Lib.hid (show dataE s p=endE s 2 by rw[HSP.out];rfl)
  have CE:Hid (∀ (N:List At) w,St w0 X (N++SF g s k (.own 1 r1 EA p.en.length ec (p.en.map v8)::.own 1 r2 DA p.da.length dc (p.da.map v8)::L)) w->Calls Tryz.prog 89 #[.pointer (some ⟨g,0,none⟩),.int .i64 2] w fun e w'=>e=.returned (.tuple #[])/\Fin w0 X g (dataE s p) k.h.gr L w'):=Lib.hid (fun N w hs=>by
   rw[E.out];refine(endF N hs OK.out 2 (by rw[<-E.out];exact HB.out)).mono ?_;rintro e w' ⟨h1,h2⟩;exact⟨h1,h2.sub (List.Sublist.cons _ (List.Sublist.cons _ (List.Sublist.refl _)))⟩)
  clear E HSP
  go_wp2_with (first|(go_at_call 89;refine Calls.mono (CE.out [_,_] _ hs) ?_;clear hs;rintro e w ⟨rfl,hs⟩))
  first|refine bodyPost_ret (results_none rfl _ _ _) rfl ?_|refine bodyPost_end (results_none rfl _ _ _) rfl ?_
  exact⟨rfl,hs⟩
 | true =>
 have GA:=Lib.hid (HGA.out rfl)
 clear HGA HGT
 by_cases htg:ttg=ptg
 ·have htgb:(n16 ttg != n16 ptg)=false:=by rw[wneq];simpa using htg
  go_upto_region 6 with (first|((with_reducible refine Se.iL 31 ?_);(refine Se.Ld hs rfl rfl (Cell.blk 0 rfl T64.out) ?_))|((with_reducible refine Se.iL 33 ?_);(refine Se.Ld hs rfl rfl (Cell.blk 1 rfl P5.out) ?_)))
  have HSP2:=Lib.hid (show dataE s p=if md<m\/pof.toNat≠at0\/nd<tn\/la≠decide (tn=nd) then endE s 4 else if tn=ln then requestE { s with tx:=txs (delA k.tl id) } id t.1.en t2.da 0 else if tn=nd then askE { s with tx:=putA s.tx id t2 } id t2 else { s with tx:=putA s.tx id t2 } by rw[HSP.out,if_neg (by decide),if_neg (by simpa using htg)])
  clear HSP
  have HSP:=HSP2
  clear HSP2 htg htgb
  have NP:IntKind.i64.wrap (n32 pof)=(pof.toNat:Int):=by have:=pof.isLt;unfold n32;exact IntWalk.i64_in _ (by omega)
  obtain⟨po,hpo⟩:∃ n,n=pof.toNat:=⟨_,rfl⟩
  rw[<-hpo] at NP HSP;clear hpo
  by_cases h1:md<m
  ·have h1i:(md:Int)<(m:Int):=by omega
   refine Ch.region' 32 (fun wx=>Blk wx g4 TZ 180/\Blk wx g3 PL 65/\Blk wx g (scl s k.h) 112) (fun |_=>false) (by kernel_rfl) (by decide +kernel) (⟨hs.drew.hold (.blk g4 180 TZ) (by simp),hs.drew.hold (.blk g3 65 PL) (by simp),hs.drew.hold (qS g s k.h) (by simp[SF])⟩) ?_;replace hs:=hs.drew;generalize w.drew=w at hs ⊢;change Ch.CW _ _ _ _ _ [0,1,2,3,4,5,6,7,8,9,10,11,12,13,14,15,16,17,18,19,20,21,22,23,24,25,26,27,28,29,30,31] _ _
   iterate 10 ((first|refine Ch.pA ?_|refine Ch.pE (hv:=fun wx hS=>Se.xL (hc:=((hS.2.1.cell _).trans P13.out))) (h:=?_)|refine Ch.pE (hv:=fun wx hS=>Se.xL (hc:=((hS.2.2.cell _).trans S4.out))) (h:=?_)|refine Ch.pE (hv:=fun wx hS=>Se.xL (hc:=((hS.2.1.cell _).trans P6.out))) (h:=?_)|refine Ch.pE (hv:=fun wx hS=>Se.xL (hc:=((hS.1.cell _).trans T67.out))) (h:=?_)|refine Ch.pE (hv:=fun wx hS=>Se.xL (hc:=((hS.2.1.cell _).trans P1.out))) (h:=?_));(try simp only[pU]))
   iterate 5 (refine Ch.sK ?_;(try simp only[pU]))
   iterate 2 ((first|refine Ch.pA ?_|refine Ch.pE (hv:=fun wx hS=>Se.xL (hc:=((hS.2.1.cell _).trans P13.out))) (h:=?_)|refine Ch.pE (hv:=fun wx hS=>Se.xL (hc:=((hS.2.2.cell _).trans S4.out))) (h:=?_)|refine Ch.pE (hv:=fun wx hS=>Se.xL (hc:=((hS.2.1.cell _).trans P6.out))) (h:=?_)|refine Ch.pE (hv:=fun wx hS=>Se.xL (hc:=((hS.1.cell _).trans T67.out))) (h:=?_)|refine Ch.pE (hv:=fun wx hS=>Se.xL (hc:=((hS.2.1.cell _).trans P1.out))) (h:=?_));(try simp only[pU]))
   iterate 4 (refine Ch.sK ?_;(try simp only[pU]))
   iterate 2 ((first|refine Ch.pA ?_|refine Ch.pE (hv:=fun wx hS=>Se.xL (hc:=((hS.2.1.cell _).trans P13.out))) (h:=?_)|refine Ch.pE (hv:=fun wx hS=>Se.xL (hc:=((hS.2.2.cell _).trans S4.out))) (h:=?_)|refine Ch.pE (hv:=fun wx hS=>Se.xL (hc:=((hS.2.1.cell _).trans P6.out))) (h:=?_)|refine Ch.pE (hv:=fun wx hS=>Se.xL (hc:=((hS.1.cell _).trans T67.out))) (h:=?_)|refine Ch.pE (hv:=fun wx hS=>Se.xL (hc:=((hS.2.1.cell _).trans P1.out))) (h:=?_));(try simp only[pU]))
   iterate 7 (refine Ch.sK ?_;(try simp only[pU]))
   iterate 2 (refine Ch.pA ?_;(try simp only[pU]))
   refine Ch.done ?_
   try simp only[List.drop_succ_cons,List.drop_zero]
   have E:=Lib.hid (show dataE s p=endE s 4 by rw[HSP.out,if_pos (.inl h1)])
   have CE:Hid (∀ (N:List At) w,St w0 X (N++SF g s k (.own 1 r1 EA p.en.length ec (p.en.map v8)::.own 1 r2 DA p.da.length dc (p.da.map v8)::L)) w->Calls Tryz.prog 89 #[.pointer (some ⟨g,0,none⟩),.int .i64 4] w fun e w'=>e=.returned (.tuple #[])/\Fin w0 X g (dataE s p) k.h.gr L w'):=Lib.hid (fun N w hs=>by
    rw[E.out];refine(endF N hs OK.out 4 (by rw[<-E.out];exact HB.out)).mono ?_;rintro e w' ⟨h1,h2⟩;exact⟨h1,h2.sub (List.Sublist.cons _ (List.Sublist.cons _ (List.Sublist.refl _)))⟩)
   clear E HSP
   go_wp2_with (first|(go_at_call 89;refine Calls.mono (CE.out [_,_] _ hs) ?_;clear hs;rintro e w ⟨rfl,hs⟩))
   first|refine bodyPost_ret (results_none rfl _ _ _) rfl ?_|refine bodyPost_end (results_none rfl _ _ _) rfl ?_
   exact⟨rfl,hs⟩
  ·have h1i:¬ (md:Int)<(m:Int):=by omega
   by_cases h2:po=at0
   ·have h2b:((po:Int) != (at0:Int))=false:=by simp;omega
    by_cases h3:nd<tn
    ·have h3i:(nd:Int)<(tn:Int):=by omega
     refine Ch.region' 32 (fun wx=>Blk wx g4 TZ 180/\Blk wx g3 PL 65/\Blk wx g (scl s k.h) 112) (fun |_=>false) (by kernel_rfl) (by decide +kernel) (⟨hs.drew.hold (.blk g4 180 TZ) (by simp),hs.drew.hold (.blk g3 65 PL) (by simp),hs.drew.hold (qS g s k.h) (by simp[SF])⟩) ?_;replace hs:=hs.drew;generalize w.drew=w at hs ⊢;change Ch.CW _ _ _ _ _ [0,1,2,3,4,5,6,7,8,9,10,11,12,13,14,15,16,17,18,19,20,21,22,23,24,25,26,27,28,29,30,31] _ _
     iterate 10 ((first|refine Ch.pA ?_|refine Ch.pE (hv:=fun wx hS=>Se.xL (hc:=((hS.2.1.cell _).trans P13.out))) (h:=?_)|refine Ch.pE (hv:=fun wx hS=>Se.xL (hc:=((hS.2.2.cell _).trans S4.out))) (h:=?_)|refine Ch.pE (hv:=fun wx hS=>Se.xL (hc:=((hS.2.1.cell _).trans P6.out))) (h:=?_)|refine Ch.pE (hv:=fun wx hS=>Se.xL (hc:=((hS.1.cell _).trans T67.out))) (h:=?_)|refine Ch.pE (hv:=fun wx hS=>Se.xL (hc:=((hS.2.1.cell _).trans P1.out))) (h:=?_));(try simp only[pU]))
     iterate 5 ((first|refine Ch.pA ?_|refine Ch.pE (hv:=fun wx hS=>Se.xL (hc:=((hS.2.1.cell _).trans P13.out))) (h:=?_)|refine Ch.pE (hv:=fun wx hS=>Se.xL (hc:=((hS.2.2.cell _).trans S4.out))) (h:=?_)|refine Ch.pE (hv:=fun wx hS=>Se.xL (hc:=((hS.2.1.cell _).trans P6.out))) (h:=?_)|refine Ch.pE (hv:=fun wx hS=>Se.xL (hc:=((hS.1.cell _).trans T67.out))) (h:=?_)|refine Ch.pE (hv:=fun wx hS=>Se.xL (hc:=((hS.2.1.cell _).trans P1.out))) (h:=?_));(try simp only[pU]))
     iterate 2 ((first|refine Ch.pA ?_|refine Ch.pE (hv:=fun wx hS=>Se.xL (hc:=((hS.2.1.cell _).trans P13.out))) (h:=?_)|refine Ch.pE (hv:=fun wx hS=>Se.xL (hc:=((hS.2.2.cell _).trans S4.out))) (h:=?_)|refine Ch.pE (hv:=fun wx hS=>Se.xL (hc:=((hS.2.1.cell _).trans P6.out))) (h:=?_)|refine Ch.pE (hv:=fun wx hS=>Se.xL (hc:=((hS.1.cell _).trans T67.out))) (h:=?_)|refine Ch.pE (hv:=fun wx hS=>Se.xL (hc:=((hS.2.1.cell _).trans P1.out))) (h:=?_));(try simp only[pU]))
     iterate 4 ((first|refine Ch.pA ?_|refine Ch.pE (hv:=fun wx hS=>Se.xL (hc:=((hS.2.1.cell _).trans P13.out))) (h:=?_)|refine Ch.pE (hv:=fun wx hS=>Se.xL (hc:=((hS.2.2.cell _).trans S4.out))) (h:=?_)|refine Ch.pE (hv:=fun wx hS=>Se.xL (hc:=((hS.2.1.cell _).trans P6.out))) (h:=?_)|refine Ch.pE (hv:=fun wx hS=>Se.xL (hc:=((hS.1.cell _).trans T67.out))) (h:=?_)|refine Ch.pE (hv:=fun wx hS=>Se.xL (hc:=((hS.2.1.cell _).trans P1.out))) (h:=?_));(try simp only[pU]))
     iterate 2 ((first|refine Ch.pA ?_|refine Ch.pE (hv:=fun wx hS=>Se.xL (hc:=((hS.2.1.cell _).trans P13.out))) (h:=?_)|refine Ch.pE (hv:=fun wx hS=>Se.xL (hc:=((hS.2.2.cell _).trans S4.out))) (h:=?_)|refine Ch.pE (hv:=fun wx hS=>Se.xL (hc:=((hS.2.1.cell _).trans P6.out))) (h:=?_)|refine Ch.pE (hv:=fun wx hS=>Se.xL (hc:=((hS.1.cell _).trans T67.out))) (h:=?_)|refine Ch.pE (hv:=fun wx hS=>Se.xL (hc:=((hS.2.1.cell _).trans P1.out))) (h:=?_));(try simp only[pU]))
     iterate 7 (refine Ch.sK ?_;(try simp only[pU]))
     iterate 2 (refine Ch.pA ?_;(try simp only[pU]))
     refine Ch.done ?_
     try simp only[List.drop_succ_cons,List.drop_zero]
     have E:=Lib.hid (show dataE s p=endE s 4 by rw[HSP.out,if_pos (.inr (.inr (.inl h3)))])
     have CE:Hid (∀ (N:List At) w,St w0 X (N++SF g s k (.own 1 r1 EA p.en.length ec (p.en.map v8)::.own 1 r2 DA p.da.length dc (p.da.map v8)::L)) w->Calls Tryz.prog 89 #[.pointer (some ⟨g,0,none⟩),.int .i64 4] w fun e w'=>e=.returned (.tuple #[])/\Fin w0 X g (dataE s p) k.h.gr L w'):=Lib.hid (fun N w hs=>by
      rw[E.out];refine(endF N hs OK.out 4 (by rw[<-E.out];exact HB.out)).mono ?_;rintro e w' ⟨h1,h2⟩;exact⟨h1,h2.sub (List.Sublist.cons _ (List.Sublist.cons _ (List.Sublist.refl _)))⟩)
     clear E HSP
     go_wp2_with (first|(go_at_call 89;refine Calls.mono (CE.out [_,_] _ hs) ?_;clear hs;rintro e w ⟨rfl,hs⟩))
     first|refine bodyPost_ret (results_none rfl _ _ _) rfl ?_|refine bodyPost_end (results_none rfl _ _ _) rfl ?_
     exact⟨rfl,hs⟩
    ·have h3i:¬ (nd:Int)<(tn:Int):=by omega
     obtain⟨q,hq⟩:∃ q,q=decide (tn=nd):=⟨_,rfl⟩
     have hqb:((tn:Int)==(nd:Int))=q:=by rw[hq];by_cases h:tn=nd <;> simp[h] <;> omega
     by_cases h4:la=q
     ·have h4b:(la==q)=true:=by simpa using h4
      have HQ:=Lib.hid hq
      have HSP2:=Lib.hid (show dataE s p=if tn=ln then requestE { s with tx:=txs (delA k.tl id) } id t.1.en t2.da 0 else if tn=nd then askE { s with tx:=putA s.tx id t2 } id t2 else { s with tx:=putA s.tx id t2 } by rw[HSP.out,if_neg (by rintro(h|h|h|h);exact h1 h;exact h h2;exact h3 h;exact h (by rw[<-hq];exact h4))])
      clear HSP
      have HSP:=HSP2
      clear HSP2 hq;refine Ch.region' 32 (fun wx=>Blk wx g4 TZ 180/\Blk wx g3 PL 65/\Blk wx g (scl s k.h) 112) (fun |_=>false) (by kernel_rfl) (by decide +kernel) (⟨hs.drew.hold (.blk g4 180 TZ) (by simp),hs.drew.hold (.blk g3 65 PL) (by simp),hs.drew.hold (qS g s k.h) (by simp[SF])⟩) ?_;replace hs:=hs.drew;generalize w.drew=w at hs ⊢;change Ch.CW _ _ _ _ _ [0,1,2,3,4,5,6,7,8,9,10,11,12,13,14,15,16,17,18,19,20,21,22,23,24,25,26,27,28,29,30,31] _ _
      iterate 10 ((first|refine Ch.pA ?_|refine Ch.pE (hv:=fun wx hS=>Se.xL (hc:=((hS.2.1.cell _).trans P13.out))) (h:=?_)|refine Ch.pE (hv:=fun wx hS=>Se.xL (hc:=((hS.2.2.cell _).trans S4.out))) (h:=?_)|refine Ch.pE (hv:=fun wx hS=>Se.xL (hc:=((hS.2.1.cell _).trans P6.out))) (h:=?_)|refine Ch.pE (hv:=fun wx hS=>Se.xL (hc:=((hS.1.cell _).trans T67.out))) (h:=?_)|refine Ch.pE (hv:=fun wx hS=>Se.xL (hc:=((hS.2.1.cell _).trans P1.out))) (h:=?_));(try simp only[pU]))
      iterate 5 ((first|refine Ch.pA ?_|refine Ch.pE (hv:=fun wx hS=>Se.xL (hc:=((hS.2.1.cell _).trans P13.out))) (h:=?_)|refine Ch.pE (hv:=fun wx hS=>Se.xL (hc:=((hS.2.2.cell _).trans S4.out))) (h:=?_)|refine Ch.pE (hv:=fun wx hS=>Se.xL (hc:=((hS.2.1.cell _).trans P6.out))) (h:=?_)|refine Ch.pE (hv:=fun wx hS=>Se.xL (hc:=((hS.1.cell _).trans T67.out))) (h:=?_)|refine Ch.pE (hv:=fun wx hS=>Se.xL (hc:=((hS.2.1.cell _).trans P1.out))) (h:=?_));(try simp only[pU]))
      iterate 2 ((first|refine Ch.pA ?_|refine Ch.pE (hv:=fun wx hS=>Se.xL (hc:=((hS.2.1.cell _).trans P13.out))) (h:=?_)|refine Ch.pE (hv:=fun wx hS=>Se.xL (hc:=((hS.2.2.cell _).trans S4.out))) (h:=?_)|refine Ch.pE (hv:=fun wx hS=>Se.xL (hc:=((hS.2.1.cell _).trans P6.out))) (h:=?_)|refine Ch.pE (hv:=fun wx hS=>Se.xL (hc:=((hS.1.cell _).trans T67.out))) (h:=?_)|refine Ch.pE (hv:=fun wx hS=>Se.xL (hc:=((hS.2.1.cell _).trans P1.out))) (h:=?_));(try simp only[pU]))
      iterate 4 ((first|refine Ch.pA ?_|refine Ch.pE (hv:=fun wx hS=>Se.xL (hc:=((hS.2.1.cell _).trans P13.out))) (h:=?_)|refine Ch.pE (hv:=fun wx hS=>Se.xL (hc:=((hS.2.2.cell _).trans S4.out))) (h:=?_)|refine Ch.pE (hv:=fun wx hS=>Se.xL (hc:=((hS.2.1.cell _).trans P6.out))) (h:=?_)|refine Ch.pE (hv:=fun wx hS=>Se.xL (hc:=((hS.1.cell _).trans T67.out))) (h:=?_)|refine Ch.pE (hv:=fun wx hS=>Se.xL (hc:=((hS.2.1.cell _).trans P1.out))) (h:=?_));(try simp only[pU]))
      iterate 2 ((first|refine Ch.pA ?_|refine Ch.pE (hv:=fun wx hS=>Se.xL (hc:=((hS.2.1.cell _).trans P13.out))) (h:=?_)|refine Ch.pE (hv:=fun wx hS=>Se.xL (hc:=((hS.2.2.cell _).trans S4.out))) (h:=?_)|refine Ch.pE (hv:=fun wx hS=>Se.xL (hc:=((hS.2.1.cell _).trans P6.out))) (h:=?_)|refine Ch.pE (hv:=fun wx hS=>Se.xL (hc:=((hS.1.cell _).trans T67.out))) (h:=?_)|refine Ch.pE (hv:=fun wx hS=>Se.xL (hc:=((hS.2.1.cell _).trans P1.out))) (h:=?_));(try simp only[pU]))
      iterate 7 ((first|refine Ch.pA ?_|refine Ch.pE (hv:=fun wx hS=>Se.xL (hc:=((hS.2.1.cell _).trans P13.out))) (h:=?_)|refine Ch.pE (hv:=fun wx hS=>Se.xL (hc:=((hS.2.2.cell _).trans S4.out))) (h:=?_)|refine Ch.pE (hv:=fun wx hS=>Se.xL (hc:=((hS.2.1.cell _).trans P6.out))) (h:=?_)|refine Ch.pE (hv:=fun wx hS=>Se.xL (hc:=((hS.1.cell _).trans T67.out))) (h:=?_)|refine Ch.pE (hv:=fun wx hS=>Se.xL (hc:=((hS.2.1.cell _).trans P1.out))) (h:=?_));(try simp only[pU]))
      iterate 2 (refine Ch.pA ?_;(try simp only[pU]))
      refine Ch.done ?_
      try simp only[List.drop_succ_cons,List.drop_zero]
      have htl:tn<=nd:=by omega
      clear h1 h1i h2 h2b h3 h3i h4 h4b NP hqb;replace hs:=hs.pull 1 rfl;replace hs:=hs.pull 1 rfl;simp only[List.eraseIdx_cons_succ,List.eraseIdx_cons_zero] at hs
      have hs:=get_SF [.blk g4 180 TZ,.blk g3 65 PL] hs HND.out GA.out
      obtain⟨Lr,hLr⟩:∃ Lr,Lr=tAs (delA k.tl id)++(qAs k.rl++(At.own 1 r1 EA p.en.length ec (p.en.map v8)::.own 1 r2 DA p.da.length dc (p.da.map v8)::L)):=⟨_,rfl⟩
      have HLr:=Lib.hid hLr
      have RD:=Lib.hid (show ∀ (N:List At) (mm:Se.Ps),Reads (N++SB g s k mm Lr) DA (p.da.map v8) from fun N mm=>Reads.app (Reads.mono (L:=[At.own 1 r2 DA p.da.length dc (p.da.map v8)]) (Reads.own 0 rfl) (by rw[hLr];simp[SB])) N)
      rw[<-hLr] at hs;clear hLr
      have hln6:at0<=1048576:=by have TT:=HTT.out;omega
      have HTL:=Lib.hid (show tn<=nd from htl)
      have HLN:=Lib.hid (show nd<=ln/\ln<=1048576/\tn=at0+m by have TT:=HTT.out;omega)
      have hto6:tn<=1048576:=by have TT:=HTT.out;omega
      have hab:at0+m<=1048576:=by have TT:=HTT.out;omega
      simp only[List.cons_append,List.nil_append,tA] at hs;rw[<-HAT.out] at hs
      go_upto_region 9 with (first|((with_reducible refine Se.iL 73 ?_);(refine Se.Ld hs rfl rfl (Cell.blk 0 rfl T66.out) ?_))|((with_reducible refine Se.iL 75 ?_);(refine Se.Ld hs rfl rfl (Cell.blk 1 rfl P13.out) ?_))|((with_reducible refine Se.iL 76 ?_);(refine Se.toL rfl (Se.ap (o:=⟨some 76,_,_,_,_,_⟩) 2 hs rfl rfl rfl rfl (RD.out [_,_,_] _) Tryz.underlying24 Pd.u8i3 rfl (by decide) (v8_one _) (by rw[List.length_map,HM.out,Nat.mul_one]) (by omega) (by omega) ?_);clear hs;rintro w r3 B3 c3 hs;try simp only[pS] at hs))|((with_reducible refine Se.iN ?_);(refine Se.Soq 0 hs rfl rfl rfl (by rw[TZL.out];omega) (rfl) ?_;clear hs;intro w hs;try simp only[pS] at hs)))
      obtain⟨th,hth⟩:∃ th:Th,th=⟨r3,B3,c3⟩:=⟨_,rfl⟩
      have HTH:=Lib.hid hth
      obtain⟨TV,hTV⟩:∃ TV,TV=txv (t2,th):=⟨_,rfl⟩
      have hlen2:t2.da.length=at0+m:=by rw[HT2.out,HM.out,HAT.out];exact List.length_append
      have ET:=Lib.hid (show TZ.set 66 (.slice B3 (at0+m) c3)=TV by rw[hTV,HTZ.out,<-hlen2,HT2.out,hth];exact txv_da t.1 t.2 ⟨r3,B3,c3⟩ (t.1.da++p.da) HTE.out)
      have ED:=Lib.hid (show t.1.da.map v8++p.da.map v8=t2.da.map v8 by rw[HT2.out,List.map_append])
      rw[ET.out,ED.out] at hs
      have HT2E:=Lib.hid (show t2.en=t.1.en/\t2.tg=t.1.tg/\t2.ln=t.1.ln/\t2.nd=t.1.nd by rw[HT2.out];exact⟨rfl,rfl,rfl,rfl⟩)
      have HT2L:=Lib.hid (show t2.en.length=64 by rw[HT2E.out.1];exact HTE.out)
      have HL2:=Lib.hid (show t2.da.length=tn by rw[hlen2];exact HTT.out.2.2.2.symm)
      have TVL:=Lib.hid (show TV.length=68 by rw[hTV];exact txv_len _ HT2L.out)
      have V65:=Lib.hid (show TV[65]? = some (iv ln) by rw[<-ET.out,List.getElem?_set_ne (by decide)];exact T65.out)
      have V66:=Lib.hid (show TV[66]? = some (.slice B3 tn c3) by rw[<-ET.out,List.getElem?_set_self (by rw[TZL.out];decide),<-HTT.out.2.2.2])
      have V67:=Lib.hid (show TV[67]? = some (iv nd) by rw[<-ET.out,List.getElem?_set_ne (by decide)];exact T67.out)
      have HTV:=Lib.hid hTV
      clear hlen2 hTV ET hth;refine Ch.region' 7 (fun wx=>Blk wx g4 TV 180/\Blk wx g3 PL 65/\Blk wx g (scl s k.h) 112) (fun |_=>false) (by kernel_rfl) (by decide +kernel) (⟨hs.drew.hold (.blk g4 180 TV) (by simp),hs.drew.hold (.blk g3 65 PL) (by simp),hs.drew.hold (qS g s k.h) (by simp[SB])⟩) ?_;replace hs:=hs.drew;generalize w.drew=w at hs ⊢;change Ch.CW _ _ _ _ _ [0,1,2,3,4,5,6] _ _
      iterate 7 ((first|refine Ch.pA ?_|refine Ch.pE (hv:=fun wx hS=>Se.xL (hc:=((hS.2.1.cell _).trans P4.out))) (h:=?_)|refine Ch.pE (hv:=fun wx hS=>Se.xL (hc:=((hS.2.2.cell _).trans S15.out))) (h:=?_)|refine Ch.pE (hv:=fun wx hS=>Se.xR (hr:=(Li.Rd.of_blk hS.1)) (hi:=(by rw[TVL.out];kernel_rfl))) (h:=?_));(try simp only[pU]))
      refine Ch.done ?_
      try simp only[List.drop_succ_cons,List.drop_zero]
      simp only[SB] at hs
      go_upto_region 10 with (first|((with_reducible refine Se.iN ?_);((first|refine Se.toL rfl (Se.mup 5 (v:=.agg _) hs (.inr rfl) rfl rfl rfl rfl Tryz.underlying109 Tryz.underlying40 ?_)|refine Se.toL rfl (Se.mup 5 (v:=.int _ _) hs (.inr rfl) rfl rfl rfl rfl Tryz.underlying109 Tryz.underlying40 ?_)|refine Se.toL rfl (Se.mup 5 (v:=.pointer _) hs (.inr rfl) rfl rfl rfl rfl Tryz.underlying109 Tryz.underlying40 ?_)|refine Se.toL rfl (Se.mup 5 (v:=.bool _) hs (.inr rfl) rfl rfl rfl rfl Tryz.underlying109 Tryz.underlying40 ?_));clear hs;intro w hs;try simp only[pS] at hs)))
      have HP:=Lib.hid (show Se.putP (tPs k.tl) (n16 id) (.agg TV.toArray)=tPs (putA k.tl id (t2,th)) by rw[HTV.out];exact put_tPs _ _ _)
      rw[HP.out] at hs
      obtain⟨L2,hL2⟩:∃ L2,L2=At.own 1 r1 EA p.en.length ec (p.en.map v8)::.own 1 r2 DA p.da.length dc (p.da.map v8)::L:=⟨_,rfl⟩
      have HL2x:=Lib.hid hL2
      have HLr2:=Lib.hid (show Lr=tAs (delA k.tl id)++(qAs k.rl++L2) by rw[HLr.out,hL2])
      clear hL2
      have FIN:=Lib.hid (show ∀ (s':Ss) (w':World),Fin w0 X g s' k.h.gr L2 w'->Fin w0 X g s' k.h.gr L w' by
       intro s' w' h;rw[HL2x.out] at h;exact h.sub (List.Sublist.cons _ (List.Sublist.cons _ (List.Sublist.refl _))))
      have HNL:=Lib.hid (show at0+m=tn from HLN.out.2.2.symm)
      rw[HNL.out] at hs
      have TA:=Lib.hid (show At.own 1 r3 B3 tn c3 (t2.da.map v8)=tA (t2,th) by rw[HTH.out,<-HL2.out])
      rw[TA.out] at hs
      by_cases hl:tn=ln
      ·have hli:(tn:Int)=(ln:Int):=by omega
       have E:=Lib.hid (show dataE s p=requestE { s with tx:=txs (delA k.tl id) } id t.1.en t2.da 0 by rw[HSP.out,if_pos hl])
       have CQ:Hid (∀ w,St w0 X (.blk g4 180 TV::.blk g3 65 PL::SF g { s with tx:=txs (delA k.tl id) } { k with tl:=delA k.tl id } (tA (t2,th)::L2)) w->Calls Tryz.prog 158 #[.pointer (some ⟨g,0,none⟩),.int .u16 (n16 id),.agg (TV.take 64).toArray,.slice B3 tn c3,.int .i64 0] w fun e w'=>e=.returned (.tuple #[])/\Fin w0 X g (dataE s p) k.h.gr L w'):=Lib.hid (fun w hs=>by
        rw[E.out,HTV.out,take_en _ _ HT2L.out,HT2E.out.1,<-HL2.out];rw[show B3=th.A by rw[HTH.out],show c3=th.c by rw[HTH.out]];refine(requestF [_,_] (g:=g) (s:={ s with tx:=txs (delA k.tl id) }) (k:={ k with tl:=delA k.tl id }) ⟨id,t.1.en,t2.da,0⟩ th hs ⟨rfl,OK.out.rd,del_en OK.out.en,OK.out.re⟩ HRD.out HTE.out).mono ?_
        ·rintro e w' ⟨h1,h2⟩
         exact⟨h1,FIN.out _ _ h2⟩)
       clear E HSP hl
       go_upto_region 11 with (first|((with_reducible refine Se.iL 88 ?_);(refine Se.Ld hs rfl rfl (Cell.blk 0 rfl V65.out) ?_)))
       refine Ch.region' 6 (fun wx=>Blk wx g3 PL 65/\Blk wx g (scl s k.h) 112) (fun |_=>false) (by kernel_rfl) (by decide +kernel) (⟨hs.drew.hold (.blk g3 65 PL) (by simp),hs.drew.hold (qS g s k.h) (by simp)⟩) ?_;replace hs:=hs.drew;generalize w.drew=w at hs ⊢;change Ch.CW _ _ _ _ _ [0,1,2,3,4,5] _ _
       iterate 6 ((first|refine Ch.pA ?_|refine Ch.pE (hv:=fun wx hS=>Se.xL (hc:=((hS.1.cell _).trans P4.out))) (h:=?_)|refine Ch.pE (hv:=fun wx hS=>Se.xL (hc:=((hS.2.cell _).trans S15.out))) (h:=?_));(try simp only[pU]))
       refine Ch.done ?_
       try simp only[List.drop_succ_cons,List.drop_zero]
       go_upto_region 12 with (first|((with_reducible refine Se.iN ?_);(refine Se.toL rfl (Se.mdl 5 hs rfl rfl rfl rfl Tryz.underlying109 Tryz.underlying40 ?_);clear hs;intro w hs;try simp only[pS] at hs)))
       rw[del_tPs,del_put,HLr2.out] at hs
       have hs:=hs.perm (L':=.blk g4 180 TV::.blk g3 65 PL::SF g { s with tx:=txs (delA k.tl id) } { k with tl:=delA k.tl id } (tA (t2,th)::L2)) (List.Perm.cons _ (List.Perm.cons _ (ins_SF (s:={ s with tx:=txs (delA k.tl id) }) (k:={ k with tl:=delA k.tl id }))))
       go_wp2_with (first|((with_reducible refine Se.iL 98 ?_);(refine Se.Ld hs rfl rfl (Cell.blk 1 rfl P4.out) ?_))|((with_reducible refine Se.iL 100 ?_);(refine Se.Ldw hs rfl rfl ((Reads.blk 0 rfl).take 64) (by rw[List.length_take,TVL.out];kernel_rfl) ?_))|((with_reducible refine Se.iL 102 ?_);(refine Se.Ld hs rfl rfl (Cell.blk 0 rfl V66.out) ?_))|(go_at_call 158;refine Calls.mono (CQ.out _ hs) ?_;clear hs;rintro e w ⟨rfl,hs⟩))
       first|refine bodyPost_ret (results_none rfl _ _ _) rfl ?_|refine bodyPost_end (results_none rfl _ _ _) rfl ?_
       exact⟨rfl,hs⟩
      ·have hli:((tn:Int)==(ln:Int))=false:=by simp;omega
       have hs2:St w0 X ([.blk g4 180 TV,.blk g3 65 PL]++SF g s { k with tl:=putA k.tl id (t2,th) } L2) w:=put_SF [_,_] (by rw[HLr2.out] at hs;exact hs) HND.out
       simp only[List.cons_append,List.nil_append] at hs2;clear hs
       have hs:=hs2
       clear hs2
       have ND2:=Lib.hid (show((putA k.tl id (t2,th)).map (·.1)).Nodup from nodup_toP (f:=fun p=>.agg (txv p).toArray) (Se.MP.nodup (hs.hold (mp k.h.gt .u16 (tPs (putA k.tl id (t2,th)))) (by simp[SF]))))
       have OK2:=Lib.hid (show OkP { s with tx:=putA s.tx id t2 } { k with tl:=putA k.tl id (t2,th) } from⟨by rw[<-put_txs,<-OK.out.tx],OK.out.rd,put_en OK.out.en HT2L.out,OK.out.re⟩)
       by_cases hn:tn=nd
       ·have hni:(tn:Int)=(nd:Int):=by omega
        have E:=Lib.hid (show dataE s p=askE { s with tx:=putA s.tx id t2 } id t2 by rw[HSP.out,if_neg hl,if_pos hn])
        have CA:Hid (∀ w,St w0 X (.blk g4 180 TV::.blk g3 65 PL::SF g s { k with tl:=putA k.tl id (t2,th) } L2) w->Calls Tryz.prog 156 #[.pointer (some ⟨g,0,none⟩),.int .u16 (n16 id),.agg TV.toArray] w fun e w'=>e=.returned (.tuple #[])/\Fin w0 X g (dataE s p) k.h.gr L w'):=Lib.hid (fun w hs=>by
         have hbx:=HB.out
         rw[E.out] at hbx;rw[E.out,HTV.out];refine(askF [_,_] (g:=g) (s:={ s with tx:=putA s.tx id t2 }) (k:={ k with tl:=putA k.tl id (t2,th) }) (T:=tAs (putA k.tl id (t2,th))) id (t2,th) hs OK2.out HT2L.out (by show t2.da.length<=t2.ln;rw[HL2.out,HT2E.out.2.2.1,<-HLNE.out];have:=HTL.out;have:=HLN.out;omega) (by show t2.ln<=1048576;rw[HT2E.out.2.2.1,<-HLNE.out];have:=HLN.out;omega) HTR.out hbx ?_).mono ?_
         ·have e1:=(perm_del ND2.out (get_put k.tl id (t2,th))).map (fun p=>tA p.2)
          have e2:=(perm_put (l:=putA k.tl id (t2,th)) (k:=id) (({ t2 with nd:=min (t2.da.length+s.c.tr) t2.ln },th):Tx × Th) ND2.out).map (fun p=>tA p.2)
          exact e1.trans e2.symm
         ·rintro e w' ⟨h1,h2⟩
          exact⟨h1,FIN.out _ _ h2⟩)
        clear E HSP hl hn
        go_wp2_with (first|((with_reducible refine Se.iL 88 ?_);(refine Se.Ld hs rfl rfl (Cell.blk 0 rfl V65.out) ?_))|((with_reducible refine Se.iL 107 ?_);(refine Se.Ld hs rfl rfl (Cell.blk 0 rfl V67.out) ?_))|((with_reducible refine Se.iL 111 ?_);(refine Se.Ld hs rfl rfl (Cell.blk 1 rfl P4.out) ?_))|((with_reducible refine Se.iL 112 ?_);(refine Se.Ldw hs rfl rfl (Reads.blk 0 rfl) (by rw[TVL.out];kernel_rfl) ?_))|(go_at_call 156;refine Calls.mono (CA.out _ hs) ?_;clear hs;rintro e w ⟨rfl,hs⟩))
        first|refine bodyPost_ret (results_none rfl _ _ _) rfl ?_|refine bodyPost_end (results_none rfl _ _ _) rfl ?_
        exact⟨rfl,hs⟩
       ·have hni:((tn:Int)==(nd:Int))=false:=by simp;omega
        have E:=Lib.hid (show dataE s p={ s with tx:=putA s.tx id t2 } by rw[HSP.out,if_neg hl,if_neg hn])
        clear HSP hl hn
        go_wp2_with (first|((with_reducible refine Se.iL 88 ?_);(refine Se.Ld hs rfl rfl (Cell.blk 0 rfl V65.out) ?_))|((with_reducible refine Se.iL 107 ?_);(refine Se.Ld hs rfl rfl (Cell.blk 0 rfl V67.out) ?_)))
        first|refine bodyPost_ret (results_none rfl _ _ _) rfl ?_|refine bodyPost_end (results_none rfl _ _ _) rfl ?_
        refine⟨rfl,FIN.out _ _ ?_⟩;rw[E.out];exact⟨{ k with tl:=putA k.tl id (t2,th) },OK2.out,rfl,hs.drop.drop⟩
     ·have h4b:(la==q)=false:=by simpa using h4
      have HQ:=Lib.hid hq
      clear hq;refine Ch.region' 32 (fun wx=>Blk wx g4 TZ 180/\Blk wx g3 PL 65/\Blk wx g (scl s k.h) 112) (fun |_=>false) (by kernel_rfl) (by decide +kernel) (⟨hs.drew.hold (.blk g4 180 TZ) (by simp),hs.drew.hold (.blk g3 65 PL) (by simp),hs.drew.hold (qS g s k.h) (by simp[SF])⟩) ?_;replace hs:=hs.drew;generalize w.drew=w at hs ⊢;change Ch.CW _ _ _ _ _ [0,1,2,3,4,5,6,7,8,9,10,11,12,13,14,15,16,17,18,19,20,21,22,23,24,25,26,27,28,29,30,31] _ _
      iterate 10 ((first|refine Ch.pA ?_|refine Ch.pE (hv:=fun wx hS=>Se.xL (hc:=((hS.2.1.cell _).trans P13.out))) (h:=?_)|refine Ch.pE (hv:=fun wx hS=>Se.xL (hc:=((hS.2.2.cell _).trans S4.out))) (h:=?_)|refine Ch.pE (hv:=fun wx hS=>Se.xL (hc:=((hS.2.1.cell _).trans P6.out))) (h:=?_)|refine Ch.pE (hv:=fun wx hS=>Se.xL (hc:=((hS.1.cell _).trans T67.out))) (h:=?_)|refine Ch.pE (hv:=fun wx hS=>Se.xL (hc:=((hS.2.1.cell _).trans P1.out))) (h:=?_));(try simp only[pU]))
      iterate 5 ((first|refine Ch.pA ?_|refine Ch.pE (hv:=fun wx hS=>Se.xL (hc:=((hS.2.1.cell _).trans P13.out))) (h:=?_)|refine Ch.pE (hv:=fun wx hS=>Se.xL (hc:=((hS.2.2.cell _).trans S4.out))) (h:=?_)|refine Ch.pE (hv:=fun wx hS=>Se.xL (hc:=((hS.2.1.cell _).trans P6.out))) (h:=?_)|refine Ch.pE (hv:=fun wx hS=>Se.xL (hc:=((hS.1.cell _).trans T67.out))) (h:=?_)|refine Ch.pE (hv:=fun wx hS=>Se.xL (hc:=((hS.2.1.cell _).trans P1.out))) (h:=?_));(try simp only[pU]))
      iterate 2 ((first|refine Ch.pA ?_|refine Ch.pE (hv:=fun wx hS=>Se.xL (hc:=((hS.2.1.cell _).trans P13.out))) (h:=?_)|refine Ch.pE (hv:=fun wx hS=>Se.xL (hc:=((hS.2.2.cell _).trans S4.out))) (h:=?_)|refine Ch.pE (hv:=fun wx hS=>Se.xL (hc:=((hS.2.1.cell _).trans P6.out))) (h:=?_)|refine Ch.pE (hv:=fun wx hS=>Se.xL (hc:=((hS.1.cell _).trans T67.out))) (h:=?_)|refine Ch.pE (hv:=fun wx hS=>Se.xL (hc:=((hS.2.1.cell _).trans P1.out))) (h:=?_));(try simp only[pU]))
      iterate 4 ((first|refine Ch.pA ?_|refine Ch.pE (hv:=fun wx hS=>Se.xL (hc:=((hS.2.1.cell _).trans P13.out))) (h:=?_)|refine Ch.pE (hv:=fun wx hS=>Se.xL (hc:=((hS.2.2.cell _).trans S4.out))) (h:=?_)|refine Ch.pE (hv:=fun wx hS=>Se.xL (hc:=((hS.2.1.cell _).trans P6.out))) (h:=?_)|refine Ch.pE (hv:=fun wx hS=>Se.xL (hc:=((hS.1.cell _).trans T67.out))) (h:=?_)|refine Ch.pE (hv:=fun wx hS=>Se.xL (hc:=((hS.2.1.cell _).trans P1.out))) (h:=?_));(try simp only[pU]))
      iterate 2 ((first|refine Ch.pA ?_|refine Ch.pE (hv:=fun wx hS=>Se.xL (hc:=((hS.2.1.cell _).trans P13.out))) (h:=?_)|refine Ch.pE (hv:=fun wx hS=>Se.xL (hc:=((hS.2.2.cell _).trans S4.out))) (h:=?_)|refine Ch.pE (hv:=fun wx hS=>Se.xL (hc:=((hS.2.1.cell _).trans P6.out))) (h:=?_)|refine Ch.pE (hv:=fun wx hS=>Se.xL (hc:=((hS.1.cell _).trans T67.out))) (h:=?_)|refine Ch.pE (hv:=fun wx hS=>Se.xL (hc:=((hS.2.1.cell _).trans P1.out))) (h:=?_));(try simp only[pU]))
      iterate 7 ((first|refine Ch.pA ?_|refine Ch.pE (hv:=fun wx hS=>Se.xL (hc:=((hS.2.1.cell _).trans P13.out))) (h:=?_)|refine Ch.pE (hv:=fun wx hS=>Se.xL (hc:=((hS.2.2.cell _).trans S4.out))) (h:=?_)|refine Ch.pE (hv:=fun wx hS=>Se.xL (hc:=((hS.2.1.cell _).trans P6.out))) (h:=?_)|refine Ch.pE (hv:=fun wx hS=>Se.xL (hc:=((hS.1.cell _).trans T67.out))) (h:=?_)|refine Ch.pE (hv:=fun wx hS=>Se.xL (hc:=((hS.2.1.cell _).trans P1.out))) (h:=?_));(try simp only[pU]))
      iterate 2 (refine Ch.pA ?_;(try simp only[pU]))
      refine Ch.done ?_
      try simp only[List.drop_succ_cons,List.drop_zero]
      have E:=Lib.hid (show dataE s p=endE s 4 by rw[HSP.out,if_pos (.inr (.inr (.inr (by rw[<-HQ.out];exact h4))))])
      have CE:Hid (∀ (N:List At) w,St w0 X (N++SF g s k (.own 1 r1 EA p.en.length ec (p.en.map v8)::.own 1 r2 DA p.da.length dc (p.da.map v8)::L)) w->Calls Tryz.prog 89 #[.pointer (some ⟨g,0,none⟩),.int .i64 4] w fun e w'=>e=.returned (.tuple #[])/\Fin w0 X g (dataE s p) k.h.gr L w'):=Lib.hid (fun N w hs=>by
       rw[E.out];refine(endF N hs OK.out 4 (by rw[<-E.out];exact HB.out)).mono ?_;rintro e w' ⟨h1,h2⟩;exact⟨h1,h2.sub (List.Sublist.cons _ (List.Sublist.cons _ (List.Sublist.refl _)))⟩)
      clear E HSP
      go_wp2_with (first|(go_at_call 89;refine Calls.mono (CE.out [_,_] _ hs) ?_;clear hs;rintro e w ⟨rfl,hs⟩))
      first|refine bodyPost_ret (results_none rfl _ _ _) rfl ?_|refine bodyPost_end (results_none rfl _ _ _) rfl ?_
      exact⟨rfl,hs⟩
   ·have h2b:((po:Int) != (at0:Int))=true:=by simp;omega
    refine Ch.region' 32 (fun wx=>Blk wx g4 TZ 180/\Blk wx g3 PL 65/\Blk wx g (scl s k.h) 112) (fun |_=>false) (by kernel_rfl) (by decide +kernel) (⟨hs.drew.hold (.blk g4 180 TZ) (by simp),hs.drew.hold (.blk g3 65 PL) (by simp),hs.drew.hold (qS g s k.h) (by simp[SF])⟩) ?_;replace hs:=hs.drew;generalize w.drew=w at hs ⊢;change Ch.CW _ _ _ _ _ [0,1,2,3,4,5,6,7,8,9,10,11,12,13,14,15,16,17,18,19,20,21,22,23,24,25,26,27,28,29,30,31] _ _
    iterate 10 ((first|refine Ch.pA ?_|refine Ch.pE (hv:=fun wx hS=>Se.xL (hc:=((hS.2.1.cell _).trans P13.out))) (h:=?_)|refine Ch.pE (hv:=fun wx hS=>Se.xL (hc:=((hS.2.2.cell _).trans S4.out))) (h:=?_)|refine Ch.pE (hv:=fun wx hS=>Se.xL (hc:=((hS.2.1.cell _).trans P6.out))) (h:=?_)|refine Ch.pE (hv:=fun wx hS=>Se.xL (hc:=((hS.1.cell _).trans T67.out))) (h:=?_)|refine Ch.pE (hv:=fun wx hS=>Se.xL (hc:=((hS.2.1.cell _).trans P1.out))) (h:=?_));(try simp only[pU]))
    iterate 5 ((first|refine Ch.pA ?_|refine Ch.pE (hv:=fun wx hS=>Se.xL (hc:=((hS.2.1.cell _).trans P13.out))) (h:=?_)|refine Ch.pE (hv:=fun wx hS=>Se.xL (hc:=((hS.2.2.cell _).trans S4.out))) (h:=?_)|refine Ch.pE (hv:=fun wx hS=>Se.xL (hc:=((hS.2.1.cell _).trans P6.out))) (h:=?_)|refine Ch.pE (hv:=fun wx hS=>Se.xL (hc:=((hS.1.cell _).trans T67.out))) (h:=?_)|refine Ch.pE (hv:=fun wx hS=>Se.xL (hc:=((hS.2.1.cell _).trans P1.out))) (h:=?_));(try simp only[pU]))
    iterate 2 ((first|refine Ch.pA ?_|refine Ch.pE (hv:=fun wx hS=>Se.xL (hc:=((hS.2.1.cell _).trans P13.out))) (h:=?_)|refine Ch.pE (hv:=fun wx hS=>Se.xL (hc:=((hS.2.2.cell _).trans S4.out))) (h:=?_)|refine Ch.pE (hv:=fun wx hS=>Se.xL (hc:=((hS.2.1.cell _).trans P6.out))) (h:=?_)|refine Ch.pE (hv:=fun wx hS=>Se.xL (hc:=((hS.1.cell _).trans T67.out))) (h:=?_)|refine Ch.pE (hv:=fun wx hS=>Se.xL (hc:=((hS.2.1.cell _).trans P1.out))) (h:=?_));(try simp only[pU]))
    iterate 4 (refine Ch.sK ?_;(try simp only[pU]))
    iterate 2 ((first|refine Ch.pA ?_|refine Ch.pE (hv:=fun wx hS=>Se.xL (hc:=((hS.2.1.cell _).trans P13.out))) (h:=?_)|refine Ch.pE (hv:=fun wx hS=>Se.xL (hc:=((hS.2.2.cell _).trans S4.out))) (h:=?_)|refine Ch.pE (hv:=fun wx hS=>Se.xL (hc:=((hS.2.1.cell _).trans P6.out))) (h:=?_)|refine Ch.pE (hv:=fun wx hS=>Se.xL (hc:=((hS.1.cell _).trans T67.out))) (h:=?_)|refine Ch.pE (hv:=fun wx hS=>Se.xL (hc:=((hS.2.1.cell _).trans P1.out))) (h:=?_));(try simp only[pU]))
    iterate 7 (refine Ch.sK ?_;(try simp only[pU]))
    iterate 2 (refine Ch.pA ?_;(try simp only[pU]))
    refine Ch.done ?_
    try simp only[List.drop_succ_cons,List.drop_zero]
    have E:=Lib.hid (show dataE s p=endE s 4 by rw[HSP.out,if_pos (.inr (.inl h2))])
    have CE:Hid (∀ (N:List At) w,St w0 X (N++SF g s k (.own 1 r1 EA p.en.length ec (p.en.map v8)::.own 1 r2 DA p.da.length dc (p.da.map v8)::L)) w->Calls Tryz.prog 89 #[.pointer (some ⟨g,0,none⟩),.int .i64 4] w fun e w'=>e=.returned (.tuple #[])/\Fin w0 X g (dataE s p) k.h.gr L w'):=Lib.hid (fun N w hs=>by
     rw[E.out];refine(endF N hs OK.out 4 (by rw[<-E.out];exact HB.out)).mono ?_;rintro e w' ⟨h1,h2⟩;exact⟨h1,h2.sub (List.Sublist.cons _ (List.Sublist.cons _ (List.Sublist.refl _)))⟩)
    clear E HSP
    go_wp2_with (first|(go_at_call 89;refine Calls.mono (CE.out [_,_] _ hs) ?_;clear hs;rintro e w ⟨rfl,hs⟩))
    first|refine bodyPost_ret (results_none rfl _ _ _) rfl ?_|refine bodyPost_end (results_none rfl _ _ _) rfl ?_
    exact⟨rfl,hs⟩
 ·have htgb:(n16 ttg != n16 ptg)=true:=by rw[wneq];simpa using htg
  have E:=Lib.hid (show dataE s p=endE s 2 by rw[HSP.out];simp[htg])
  have CE:Hid (∀ (N:List At) w,St w0 X (N++SF g s k (.own 1 r1 EA p.en.length ec (p.en.map v8)::.own 1 r2 DA p.da.length dc (p.da.map v8)::L)) w->Calls Tryz.prog 89 #[.pointer (some ⟨g,0,none⟩),.int .i64 2] w fun e w'=>e=.returned (.tuple #[])/\Fin w0 X g (dataE s p) k.h.gr L w'):=Lib.hid (fun N w hs=>by
   rw[E.out];refine(endF N hs OK.out 2 (by rw[<-E.out];exact HB.out)).mono ?_;rintro e w' ⟨h1,h2⟩;exact⟨h1,h2.sub (List.Sublist.cons _ (List.Sublist.cons _ (List.Sublist.refl _)))⟩)
  clear E HSP
  go_wp2_with (first|((with_reducible refine Se.iL 31 ?_);(refine Se.Ld hs rfl rfl (Cell.blk 0 rfl T64.out) ?_))|((with_reducible refine Se.iL 33 ?_);(refine Se.Ld hs rfl rfl (Cell.blk 1 rfl P5.out) ?_))|(go_at_call 89;refine Calls.mono (CE.out [_,_] _ hs) ?_;clear hs;rintro e w ⟨rfl,hs⟩))
  first|refine bodyPost_ret (results_none rfl _ _ _) rfl ?_|refine bodyPost_end (results_none rfl _ _ _) rfl ?_
  exact⟨rfl,hs⟩
end Sn
end Go.Proofs.YtjnllcnknjlmmaaGreat
