/- Layer 41. -/
import Derived.Test.YtjnllcnknjlmmaaGreatKa09
import Derived.Test.YtjnllcnknjlmmaaGreatKa21
set_option linter.unusedSimpArgs false
set_option linter.unusedVariables false
set_option maxRecDepth 100000
set_option maxHeartbeats 4000000
namespace Go.Proofs.YtjnllcnknjlmmaaGreat
open Go Go.RowKit
namespace Sn
open Pd (Fm PDU pc iv fl fv)
open Se (St At Reads)
open Su (u16)
open Li (v8 Rd Blk)
open Bv (n8 n16)
variable {w0 w:World} {X:List Nat} {L:List At}
attribute [local irreducible] Calls
def entZ(op:BitVec 8)(id:BitVec 16)(kd:BitVec 8):Bs:=[op,0#8,BitVec.ofNat 8 id.toNat,BitVec.ofNat 8 (id.toNat / 256)]++List.replicate 35 0#8++[kd]++List.replicate 24 0#8
def entK(op:BitVec 8)(id:BitVec 16)(n:Nat)(kd:BitVec 8):Nat->Bs
 | 0=>entZ op id kd
 | i+1=>(entK op id n kd i).set (32+i) (BitVec.ofNat 8 (n>>>(8*i)))
def entE(op:BitVec 8)(id:BitVec 16)(n:Nat)(kd:BitVec 8):Bs:=entK op id n kd 4
theorem entK_len(op:BitVec 8)(id:BitVec 16)(n:Nat)(kd:BitVec 8):∀ i,(entK op id n kd i).length=64
 | 0=>rfl
 | i+1=>by show(List.set _ _ _).length=64;rw[List.length_set];exact entK_len op id n kd i
theorem z64:(Tryz.prog.info? 37).bind (fun i=>i.zero.map (·.cells.toList))=some (List.replicate 64 (.int .u8 0)):=by kernel_rfl
theorem entZ_eq(op:BitVec 8)(id:BitVec 16)(kd:BitVec 8):((((List.replicate 64 (Value.int IntKind.u8 0)).set 0 (Value.int IntKind.u8 (n8 op))).set 2 (Value.int IntKind.u8 (n16 id%256))).set 3 (Value.int IntKind.u8 (n16 id / 256%256))).set 39 (Value.int IntKind.u8 (n8 kd))=(entZ op id kd).map v8:=by
 have h1:Value.int IntKind.u8 (n16 id%256)=v8 (BitVec.ofNat 8 id.toNat):=by unfold v8;congr 1
 have h2:Value.int IntKind.u8 (n16 id / 256%256)=v8 (BitVec.ofNat 8 (id.toNat / 256)):=by unfold v8;congr 1
 rw[h1,h2]
 rfl
theorem entK_set(op:BitVec 8)(id:BitVec 16)(n:Nat)(kd:BitVec 8)(i:Nat):((entK op id n kd i).map v8).set (32+i) (Value.int IntKind.u8 ((n:Int) / 2 ^ (8*i)%256))=(entK op id n kd (i+1)).map v8:=by
 show _=(List.set _ _ _).map v8
 rw[List.map_set]
 congr 1
 simp only[v8,n8,BitVec.toNat_ofNat,Nat.shiftRight_eq_div_pow];simp
theorem entry_st(hs:St w0 X L w)(op:BitVec 8)(id:BitVec 16)(n:Nat)(kd:BitVec 8)(hn:n<=2147483647):Calls Tryz.prog 29 #[.int .u8 (n8 op),.int .u16 (n16 id),iv n,.int .u8 (n8 kd)] w fun e w'=>e=.returned (.agg ((entE op id n kd).map v8).toArray)/\St w0 X L w':=by
 go_enter Tryz.func29,Tryz.ntmps29
 go_upto_region 3 with (first|((with_reducible refine Se.iL 8 ?_);(refine Se.Al hs rfl (z64) ?_;clear hs;rintro w g8-hs))|((with_reducible refine Se.iL 9 ?_);(refine Se.Al hs rfl (z64) ?_;clear hs;rintro w g9-hs))|((with_reducible refine Se.iN ?_);(refine Se.So 0 hs rfl rfl rfl (by simp) ?_;clear hs;intro w hs;try simp only[pS] at hs)))
 rw[entZ_eq op id kd] at hs
 obtain⟨z,hz⟩:∃ z,z=(List.replicate 64 (Value.int .u8 0):List Value):=⟨_,rfl⟩
 rw[<-hz] at hs
 have HZL:=Lib.hid (show z.length=64 by rw[hz];rfl)
 clear hz;(try simp only[pU])
 go_wp2_with fail
 go_loopg [10] (4-0) (fun gh s10 wr=>∃ (i:Nat),gh=4-i/\i<=4/\s10=.int .i64 (i:Nat)/\St w0 X (.blk g9 37 ((entK op id n kd i).map v8)::.blk g8 37 z::L) wr)
 case atStart=>exact⟨0,rfl,by omega,rfl,hs⟩
 case round =>
  clear hs
  rename World=>w
  obtain⟨i,rfl,hi,rfl,hs⟩:=hrel
  by_cases hlt:i<4
  ·have hlt':decide ((i:Int)<4)=true:=by simp;omega
   have hw1:IntKind.i64.wrap (32+(i:Int))=((32+i:Nat):Int):=by rw[IntWalk.i64_in (32+(i:Int)) (by omega)];omega
   have hw2:IntKind.i64.wrap (8*(i:Int))=((8*i:Nat):Int):=by rw[IntWalk.i64_in (8*(i:Int)) (by omega)];omega
   have hw3:=IntWalk.i64_in ((i:Int)+1) (by omega)
   have EL:=Lib.hid (show((entK op id n kd i).map v8).length=64 by rw[List.length_map,entK_len])
   have ES:=Lib.hid (entK_set op id n kd i)
   go_wp2_with (first|((with_reducible refine Se.iN ?_);(refine Se.Soq 0 hs rfl rfl rfl (by rw[EL.out];omega) (ES.out) ?_;clear hs;intro w hs;try simp only[pS] at hs)))
   go_roundg (4-(i+1))
   case measure=>omega
   case rel=>exact⟨i+1,rfl,by omega,by go_num,hs⟩
  ·obtain rfl:i=4:=by omega
   have EL:=Lib.hid (show((entK op id n kd 4).map v8).length=64 by rw[List.length_map,entK_len])
   have EO:=Lib.hid (show ∀ v∈(entK op id n kd 4).map v8,v.oneCell'=true by intro v hv;obtain⟨b,_,rfl⟩:=List.mem_map.1 hv;rfl)
   have hlt':decide (((4:Nat):Int)<4)=false:=by decide
   go_wp2_with (first|((with_reducible refine Se.iL 34 ?_);(refine Se.Ldw hs rfl rfl (Reads.blk 0 rfl) (by rw[EL.out];kernel_rfl) ?_))|((with_reducible refine Se.iN ?_);(refine Se.Sow 1 hs rfl rfl rfl rfl (EO.out) (by rw[EL.out];kernel_rfl) (by rw[EL.out,HZL.out]) ?_;clear hs;intro w hs;try simp only[pS] at hs)))
   refine Li.bodyPost_blk rfl rfl (hs.hold (.blk g8 37 ((entK op id n kd 4).map v8)) (by simp)) Tryz.underlying37 rfl (by rw[EL.out];kernel_rfl) rfl ?_;exact⟨rfl,hs.drop.drop⟩
theorem bd_cmd(A:Option Addr)(n c:Nat)(B:Option Addr)(m d:Nat)(w:World):(Instr.build 65 #[(0,.int .u8 4),(3,.slice A n c),(13,.slice B m d)]).run Tryz.prog w=.ok (.agg (pc { k:=4#8 } A n c B m d).toArray) w:=by kernel_rfl
theorem lcmd_st(hs:St w0 X L w)(f:Fm)(en da:Bs)(he:en.length=64){A:Option Addr}{n c:Nat}(hn:n=da.length)(hx:Reads L A (da.map v8))(h1:Pd.framed f=true)(h2:Pd.valid { h:={ k:=4#8 },en:=en,da:=da }=true){m:Nat}(hm:m=(Pd.enc { h:={ k:=4#8 },en:=en,da:=da } f).length):Calls Tryz.prog 44 #[fv f,.agg (en.map v8).toArray,.slice A n c] w fun e w'=>∃ r B c',e=.returned (.slice B m c')/\St w0 X (.own 1 r B m c' ((Pd.enc { h:={ k:=4#8 },en:=en,da:=da } f).map v8)::L) w':=by
 rw[Pd.fv_eq]
 obtain⟨EV,hEV⟩:∃ EV,EV=en.map v8:=⟨_,rfl⟩
 obtain⟨F,hF⟩:∃ F,F=fl f:=⟨_,rfl⟩
 obtain⟨P,hP⟩:∃ P:PDU,P={ h:={ k:=4#8 },en:=en,da:=da }:=⟨_,rfl⟩
 have EVL:=Lib.hid (show EV.length=64 by rw[hEV,List.length_map,he])
 have FL:=Lib.hid (show F.length=3 by rw[hF];rfl)
 rw[<-hP] at h2 hm
 have CE:Hid (∀ (g4 g3:Nat) w,St w0 X (.blk g4 37 EV::.blk g3 54 F::L) w->Calls Tryz.prog 28 #[.agg (pc { k:=4#8 } (some ⟨g4,0,none⟩) 64 64 A n c).toArray,.agg F.toArray] w fun e' w'=>∃ r B c,e'=.returned (.slice B m c)/\St w0 X (.own 1 r B m c ((Pd.enc P f).map v8)::.blk g4 37 EV::.blk g3 54 F::L) w'):=Lib.hid (fun g4 g3 w hs=>by
  have h3:=Pd.rEncode_st hs P f (EA:=some ⟨g4,0,none⟩) (DA:=A) (en:=64) (ec:=64) (dn:=n) (dc:=c) (by rw[hP];show Reads _ _ (en.map v8);rw[<-hEV];exact Reads.blk 0 rfl) (by rw[hP];exact(hx.cons _).cons _) (by rw[hP];exact he.symm) (by rw[hP];exact hn) h1 h2 hm
  rw[Pd.fv_eq,<-hF] at h3
  have e:P.h={ k:=4#8 }:=by rw[hP]
  rw[e] at h3;exact h3)
 rw[<-hEV,<-hF,<-hP];clear hEV hF hP hx h1 h2 hm hn he
 go_enter Tryz.func44,Tryz.ntmps44
 go_upto_region 1 with (first|((with_reducible refine Se.iL 3 ?_);(refine Se.toL rfl (Se.bx (o:=⟨some 3,_,_,_,_,_⟩) hs rfl rfl (l:=F) rfl ?_);clear hs;rintro w g3-hs))|((with_reducible refine Se.iL 4 ?_);(refine Se.toL rfl (Se.bx (o:=⟨some 4,_,_,_,_,_⟩) hs rfl rfl (l:=EV) rfl ?_);clear hs;rintro w g4-hs))|((first|with_reducible refine Se.ab hs ?_|with_reducible refine Se.abc hs ?_);clear hs;(first|(generalize w.heap.size=g3;intro w hs)))|((first|with_reducible refine Se.ab hs ?_|with_reducible refine Se.abc hs ?_);clear hs;(first|(generalize w.heap.size=g4;intro w hs))))
 refine Ch.region' 6 (fun wx=>Blk wx g4 EV 37/\Blk wx g3 F 54) (fun|4=>true|_=>false) (by kernel_rfl) (by decide +kernel) (⟨hs.drew.hold (.blk g4 37 EV) (by simp),hs.drew.hold (.blk g3 54 F) (by simp)⟩) ?_;replace hs:=hs.drew;generalize w.drew=w at hs ⊢;change Ch.CW _ _ _ _ _ [0,1,2,3,4,5] _ _
 iterate 2 (refine Ch.pA ?_;(try simp only[pU]))
 refine Ch.pE (v:=.agg (pc { k:=4#8 } (some ⟨g4,0,none⟩) 64 64 A n c).toArray) (hv:=fun wx hS=>Pd.xbd rfl (vs:=[(0,.int .u8 4),(3,.slice (some ⟨g4,0,none⟩) 64 64),(13,.slice A n c)]) rfl (bd_cmd _ _ _ _ _ _ _)) (h:=?_);(try simp only[pU])
 iterate 1 ((first|refine Ch.pA ?_|refine Ch.pE (hv:=fun wx hS=>Se.xR (hr:=(Li.Rd.of_blk hS.2)) (hi:=(by rw[FL.out];kernel_rfl))) (h:=?_));(try simp only[pU]))
 refine Ch.cA (f:=28) (args:=#[.agg (pc { k:=4#8 } (some ⟨g4,0,none⟩) 64 64 A n c).toArray,.agg F.toArray]) (CE.out _ _ _ hs) ?_;clear hs;rintro e w⟨r,B,c',rfl,hs⟩;refine⟨_,rfl,⟨hs.hold (.blk g4 37 EV) (by simp),hs.hold (.blk g3 54 F) (by simp)⟩,?_⟩;(try simp only[pU])
 iterate 1 (refine Ch.pA ?_;(try simp only[pU]))
 refine Ch.done ?_
 try simp only[List.drop_succ_cons,List.drop_zero]
 go_wp2_with fail
 go_ret;exact⟨r,B,c',rfl,hs.sub (List.Sublist.cons_cons _ (List.Sublist.cons _ (List.Sublist.cons _ (List.Sublist.refl _))))⟩
end Sn
end Go.Proofs.YtjnllcnknjlmmaaGreat
namespace Go.Proofs.YtjnllcnknjlmmaaGreat
open Go Go.RowKit
namespace Sn
open Pd (iv strB)
open Se (St At Reads Cell)
open Li (v8 Rd)
open Bv (n8 n16)
variable {w0 w:World} {X:List Nat} {L:List At}
attribute [local irreducible] Calls
theorem xcv{P:Program}{w:World}{o:Oper}{ρ:Operand->Value}{src dst e:TypeId}{x:Operand}(ho:o.op=.convert src dst x){A:Option Addr}{n c:Nat}(hx:ρ x=.slice A n c){bs:Bs}(hn:n=bs.length)(hr:Rd w A (bs.map v8))(h1:P.underlying src=some (.slice e))(h2:P.underlying e=some (.int .u8))(h3:P.underlying dst=some .string):(execOp ρ o).run P w=.ok (.value (.string (strB bs))) w:=by
 unfold execOp;simp only[ho,hx,Sem.run_bind,Pd.run_str w h1 h2 h3 hn hr,Result.andThen_ok,Sem.run_pure]
theorem rqv_l67{p:Rq × Th}(h:p.1.en.length=64):(rqv p).length=67:=by
 unfold rqv;simp only[List.length_cons,List.length_append,List.length_map,h,List.length_nil]
theorem rqs_at:∀ (l:List (Rq × Th)),(∀ p∈l,p.1.en.length=64)->∀ (i:Nat) (p:Rq × Th),l[i]? = some p->((rqs l).drop (i*67)).take 67=rqv p
 | [],_,i,p,h=>by simp at h
 | a::l,hl,0,p,h=>by
  obtain rfl:a=p:=by simpa using h
  show((rqv a++rqs l).drop _).take 67=_
  rw[Nat.zero_mul,List.drop_zero,List.take_left' (rqv_l67 (hl a List.mem_cons_self))]
 | a::l,hl,i+1,p,h=>by
  show((rqv a++rqs l).drop _).take 67=_
  rw[show(i+1)*67=(rqv a).length+i*67 by rw[rqv_l67 (hl a List.mem_cons_self)];omega,<-List.drop_drop,List.drop_left];exact rqs_at l (fun p hp=>hl p (List.mem_cons_of_mem _ hp)) i p (by simpa using h)
theorem rq_reads{A:Option Addr}{g o:Nat}{l:List (Rq × Th)}(hx:Reads L (some ⟨g,o,none⟩) (rqs l))(hl:∀ p∈l,p.1.en.length=64){i:Nat}{p:Rq × Th}(hp:l[i]? = some p) :
  Cell L g (o+i*67) (.int .u16 (n16 p.1.id))/\Reads L (some ⟨g,o+i*67+1,none⟩) (p.1.en.map v8)/\Cell L g (o+i*67+65) (.slice p.2.A p.1.da.length p.2.c)/\Cell L g (o+i*67+66) (iv p.1.rp):=by
 have h:=(hx.at (i*67)).take 67
 rw[rqs_at l hl i p hp] at h
 have he:(p.1.en.map v8).length=64:=by rw[List.length_map];exact hl p (List.mem_of_getElem? hp)
 have h1:=(h.at 1).take 64
 have e1:((rqv p).drop 1).take 64=p.1.en.map v8:=by
  show(p.1.en.map v8++_).take 64=_
  exact List.take_left' he
 rw[e1] at h1
 have g1:(rqv p)[65]? = some (.slice p.2.A p.1.da.length p.2.c):=by
  show(p.1.en.map v8++[_,_])[64]? = _
  rw[List.getElem?_append_right (by omega),he];rfl
 have g2:(rqv p)[66]? = some (iv p.1.rp):=by
  show(p.1.en.map v8++[_,_])[65]? = _
  rw[List.getElem?_append_right (by omega),he];rfl
 exact⟨h.cell 0 rfl,h1,h.cell 65 g1,h.cell 66 g2⟩
theorem rsame_st(hs:St w0 X L w){l1 l2:List (Rq × Th)}(he:rqo l1=rqo l2)(hl1:∀ p∈l1,p.1.en.length=64){A B:Option Addr}{ga oa gb ob n ca cb:Nat}(hn:n=l1.length)(hA:0<n->A=some ⟨ga,oa,none⟩)(hB:0<n->B=some ⟨gb,ob,none⟩)(hx:Reads L A (rqs l1))(hy:Reads L B (rqs l2))(hd1:∀ p∈l1,Reads L p.2.A (p.1.da.map v8))(hd2:∀ p∈l2,Reads L p.2.A (p.1.da.map v8))(hb:n<=1048576) :
  Calls Tryz.prog 40 #[.slice A n ca,.slice B n cb] w fun e w'=>e=.returned (.bool true)/\St w0 X L w':=by
 have HE:=Lib.hid he
 have HL1:=Lib.hid hl1
 have HL2:=Lib.hid (show ∀ p∈l2,p.1.en.length=64 from fun p hp=>by
  have h1:p.1∈rqo l1:=by rw[he];exact List.mem_map.2 ⟨p,hp,rfl⟩
  obtain⟨q,hq,hqe⟩:=List.mem_map.1 h1
  rw[<-hqe];exact hl1 q hq)
 have HN:=Lib.hid hn
 have HN2:=Lib.hid (show n=l2.length by rw[hn];have:=congrArg List.length he;simpa [rqo] using this)
 have HA:=Lib.hid hA
 have HB:=Lib.hid hB
 have HX:=Lib.hid hx
 have HY:=Lib.hid hy
 have HD1:=Lib.hid hd1
 have HD2:=Lib.hid hd2
 have d3:((n:Int) != (n:Int))=false:=by simp
 clear he hl1 hn hA hB hx hy hd1 hd2
 go_enter Tryz.func40,Tryz.ntmps40
 go_wp2_with fail
 go_loopg [5] (n-0) (fun gh s5 wr=>∃ (i:Nat),gh=n-i/\i<=n/\s5=.int .i64 (i:Nat)/\St w0 X L wr)
 case atStart=>exact⟨0,rfl,Nat.zero_le _,rfl,hs⟩
 case round =>
  clear hs
  rename World=>w
  obtain⟨i,rfl,hi,rfl,hs⟩:=hrel
  by_cases hlt:i<n
  ·have hlt':decide ((i:Int)<(n:Int))=true:=by simp;omega
   obtain rfl:=HA.out (by omega)
   obtain rfl:=HB.out (by omega)
   obtain⟨p1,hp1⟩:∃ p,l1[i]? = some p:=⟨_,List.getElem?_eq_getElem (by rw[<-HN.out];exact hlt)⟩
   obtain⟨p2,hp2⟩:∃ p,l2[i]? = some p:=⟨_,List.getElem?_eq_getElem (by rw[<-HN2.out];exact hlt)⟩
   have hpe:p1.1=p2.1:=by
    have h1:(rqo l1)[i]? = some p1.1:=by unfold rqo;rw[List.getElem?_map,hp1];rfl
    have h2:(rqo l2)[i]? = some p2.1:=by unfold rqo;rw[List.getElem?_map,hp2];rfl
    rw[HE.out,h2] at h1;exact(Option.some.inj h1).symm
   have R1:=rq_reads (A:=none) HX.out HL1.out hp1
   have R2:=rq_reads (A:=none) HY.out HL2.out hp2
   have D1:=HD1.out p1 (List.mem_of_getElem? hp1)
   have D2:=HD2.out p2 (List.mem_of_getElem? hp2)
   have EL:=HL1.out p1 (List.mem_of_getElem? hp1)
   rw[<-hpe] at R2 D2
   obtain⟨Da,hDa⟩:∃ q,q=p1.2.A:=⟨_,rfl⟩
   obtain⟨Db,hDb⟩:∃ q,q=p2.2.A:=⟨_,rfl⟩
   obtain⟨c1,hc1⟩:∃ q,q=p1.2.c:=⟨_,rfl⟩
   obtain⟨c2,hc2⟩:∃ q,q=p2.2.c:=⟨_,rfl⟩
   obtain⟨z,hz⟩:∃ q,q=n16 p1.1.id:=⟨_,rfl⟩
   obtain⟨rp,hrp⟩:∃ q,q=p1.1.rp:=⟨_,rfl⟩
   obtain⟨EV,hEV⟩:∃ q,q=p1.1.en.map v8:=⟨_,rfl⟩
   obtain⟨da,hda⟩:∃ q,q=p1.1.da:=⟨_,rfl⟩
   obtain⟨m,hm⟩:∃ q,q=da.length:=⟨_,rfl⟩
   have EVL:=Lib.hid (show EV.length=64 by rw[hEV,List.length_map];exact EL)
   have HEI:=Lib.hid (show ∀ i,i<64->∃ z,EV[i]? = some (.int .u8 z) from fun i hi=>⟨n8 (p1.1.en[i]'(by omega)),by rw[hEV,List.getElem?_map,List.getElem?_eq_getElem (by omega)];rfl⟩)
   have HM:=Lib.hid hm
   rw[<-hDa,<-hc1,<-hz,<-hrp,<-hEV,<-hda,<-hm] at R1;rw[<-hDb,<-hc2,<-hz,<-hrp,<-hEV,<-hda,<-hm] at R2;rw[<-hDa,<-hda] at D1;rw[<-hDb,<-hda] at D2
   have R1:=Lib.hid R1
   have R2:=Lib.hid R2
   have D1:=Lib.hid D1
   have D2:=Lib.hid D2
   clear hpe hp1 hp2 hDa hDb hc1 hc2 hz hrp hEV hda hm EL
   have hw:=IntWalk.i64_in ((i:Int)+1) (by omega)
   go_upto_region 6 with (fail)
   refine Ch.region' 52 (fun wx=>(wx.cell? ⟨ga,oa+i*67,none⟩=some (.int .u16 z)/\Rd wx (some ⟨ga,oa+i*67+1,none⟩) EV/\wx.cell? ⟨ga,oa+i*67+65,none⟩=some (.slice Da m c1)/\wx.cell? ⟨ga,oa+i*67+66,none⟩=some (iv rp)/\Rd wx Da (da.map v8))/\(wx.cell? ⟨gb,ob+i*67,none⟩=some (.int .u16 z)/\Rd wx (some ⟨gb,ob+i*67+1,none⟩) EV/\wx.cell? ⟨gb,ob+i*67+65,none⟩=some (.slice Db m c2)/\wx.cell? ⟨gb,ob+i*67+66,none⟩=some (iv rp)/\Rd wx Db (da.map v8))) (fun |_=>false) (by kernel_rfl) (by decide +kernel) (⟨⟨R1.out.1 _ hs.drew.hold,R1.out.2.1 _ hs.drew.hold,R1.out.2.2.1 _ hs.drew.hold,R1.out.2.2.2 _ hs.drew.hold,D1.out _ hs.drew.hold⟩,⟨R2.out.1 _ hs.drew.hold,R2.out.2.1 _ hs.drew.hold,R2.out.2.2.1 _ hs.drew.hold,R2.out.2.2.2 _ hs.drew.hold,D2.out _ hs.drew.hold⟩⟩) ?_;replace hs:=hs.drew;generalize w.drew=w at hs ⊢;change Ch.CW _ _ _ _ _ [0,1,2,3,4,5,6,7,8,9,10,11,12,13,14,15,16,17,18,19,20,21,22,23,24,25,26,27,28,29,30,31,32,33,34,35,36,37,38,39,40,41,42,43,44,45,46,47,48,49,50,51] _ _
   iterate 52 ((first|refine Ch.pA ?_|refine Ch.pE (hv:=fun wx hS=>Se.xL (hc:=hS.1.1)) (h:=?_)|refine Ch.pE (hv:=fun wx hS=>Se.xL (hc:=hS.2.1)) (h:=?_)|refine Ch.pE (hv:=fun wx hS=>Se.xR (hr:=hS.1.2.1) (hi:=(by rw[EVL.out];kernel_rfl))) (h:=?_)|refine Ch.pE (hv:=fun wx hS=>Se.xR (hr:=hS.2.2.1) (hi:=(by rw[EVL.out];kernel_rfl))) (h:=?_)|refine Ch.pE (hv:=fun wx hS=>Se.xL (hc:=hS.1.2.2.1)) (h:=?_)|refine Ch.pE (hv:=fun wx hS=>Se.xL (hc:=hS.2.2.2.1)) (h:=?_)|refine Ch.pE (hv:=fun wx hS=>Se.xL (hc:=hS.1.2.2.2.1)) (h:=?_)|refine Ch.pE (hv:=fun wx hS=>Se.xL (hc:=hS.2.2.2.2.1)) (h:=?_)|refine Ch.pE (hv:=fun wx hS=>xcv rfl rfl HM.out hS.1.2.2.2.2 Tryz.underlying24 Tryz.underlying5 Tryz.underlying9) (h:=?_)|refine Ch.pE (hv:=fun wx hS=>xcv rfl rfl HM.out hS.2.2.2.2.2 Tryz.underlying24 Tryz.underlying5 Tryz.underlying9) (h:=?_)|refine Ch.pE (hv:=fun wx hS=>Se.xne rfl rfl rfl Tryz.underlying37 Tryz.underlying5 (by kernel_rfl) (by kernel_rfl) (by kernel_rfl) HEI.out) (h:=?_));(try simp only[pU]))
   refine Ch.done ?_
   try simp only[List.drop_succ_cons,List.drop_zero]
   go_wp2_with fail
   go_roundg (n-(i+1))
   case measure=>omega
   case rel=>exact⟨i+1,rfl,by omega,by go_num,hs⟩
  ·have hlt':decide ((i:Int)<(n:Int))=false:=by simp;omega
   go_wp2_with fail
   go_ret;exact⟨rfl,hs⟩
end Sn
end Go.Proofs.YtjnllcnknjlmmaaGreat
namespace Go.Proofs.YtjnllcnknjlmmaaGreat
open Go Go.RowKit
namespace Sn
open Pd (Fm PDU)
open Se (At)
variable {w0 w:World} {X:List Nat} {L:List At}
attribute [local irreducible] Calls
def hello(al dg:BitVec 8):PDU:={ h:={ k:=0#8,al:=al,dg:=dg } }
def f0:Fm:=⟨false,false,0⟩
end Sn
end Go.Proofs.YtjnllcnknjlmmaaGreat
namespace Go.Proofs.YtjnllcnknjlmmaaGreat
open Go Go.RowKit
namespace Sn
open Pd (iv)
open Se (St At Reads Cell)
open Su (u16)
open Li (Rd)
variable {w0 w:World} {X:List Nat} {L:List At}
attribute [local irreducible] Calls
def zsc:List Value:=[.bool false,.bool false,.int .i64 0,.int .i64 0,.int .i64 0,.int .i64 0,.int .i64 0,.bool false,.int .i64 0,.int .i64 0,.pointer none,.bool false,.bool false,.int .i64 0,.slice none 0 0,.map none,.map none,.slice none 0 0]
def NilV(L:List At)(v:Value):Prop:=v=.pointer none\/∃ g,v=.pointer (some ⟨g,0,none⟩)/\At.blk g 112 zsc∈L
theorem NilV.mono{L':List At}{v:Value}(h:NilV L v)(hm:∀ a∈L,a∈L'):NilV L' v:=by
 rcases h with h|⟨g,h,h2⟩
 ·exact .inl h
 ·exact .inr ⟨g,h,hm _ h2⟩
theorem cell_mem{g i:Nat}{t:TypeId}{l:List Value}{v:Value}(h:At.blk g t l∈L)(hv:l[i]? = some v):Cell L g i v:=Reads.cell0 (fun _ hw=>Rd.of_blk (hw _ h)) i hv
theorem none_nil(hs:St w0 X L w){v:Value}(hv:NilV L v):Calls Tryz.prog 87 #[v] w fun e w'=>e=.returned (.bool true)/\St w0 X L w':=by
 rcases hv with rfl|⟨g,rfl,hm⟩
 ·exact nil_st hs
 ·have C3:=Lib.hid (cell_mem hm (i:=7) (v:=.bool false) rfl)
  clear hm
  go_enter Tryz.func87,Tryz.ntmps87
  go_wp2_with (first|((with_reducible refine Se.iL 9 ?_);(refine Se.Ld hs rfl rfl (C3.out) ?_)))
  go_ret;exact⟨rfl,hs⟩
theorem feed_nil(hs:St w0 X L w){v:Value}(hv:NilV L v)(A:Option Addr)(n c:Nat):Calls Tryz.prog 37 #[v,.slice A n c] w fun e w'=>e=.returned (.tuple #[.slice none 0 0,iv 1])/\St w0 X L w':=by
 have HV:=Lib.hid hv
 clear hv
 go_enter Tryz.func37,Tryz.ntmps37
 go_wp2_with fail
 refine wp_scope_straight ?_
 go_wp2_with (first|(go_at_call 87;refine Calls.mono (none_nil hs HV.out) ?_;clear hs;rintro e w ⟨rfl,hs⟩))
 simp only[Exit.noGoto_ret];go_ret2;exact⟨rfl,hs⟩
theorem end_nil(hs:St w0 X L w){v:Value}(hv:NilV L v)(z:Int):Calls Tryz.prog 47 #[v,.int .u16 z] w fun e w'=>e=.returned (iv 1)/\St w0 X L w':=by
 have HV:=Lib.hid hv
 clear hv
 go_enter Tryz.func47,Tryz.ntmps47
 go_wp2_with (first|(go_at_call 87;refine Calls.mono (none_nil hs HV.out) ?_;clear hs;rintro e w ⟨rfl,hs⟩))
 go_ret;exact⟨rfl,hs⟩
theorem output_nil(hs:St w0 X L w){v:Value}(hv:NilV L v):Calls Tryz.prog 39 #[v] w fun e w'=>e=.returned (.slice none 0 0)/\St w0 X L w':=by
 have HV:=Lib.hid hv
 clear hv
 go_enter Tryz.func39,Tryz.ntmps39
 go_wp2_with (first|(go_at_call 87;refine Calls.mono (none_nil hs HV.out) ?_;clear hs;rintro e w ⟨rfl,hs⟩))
 go_ret;exact⟨rfl,hs⟩
theorem state_nil(hs:St w0 X L w){v:Value}(hv:NilV L v):Calls Tryz.prog 38 #[v] w fun e w'=>e=.returned (.tuple #[iv 0,iv 0])/\St w0 X L w':=by
 have HV:=Lib.hid hv
 clear hv
 go_enter Tryz.func38,Tryz.ntmps38
 go_wp2_with (first|(go_at_call 87;refine Calls.mono (none_nil hs HV.out) ?_;clear hs;rintro e w ⟨rfl,hs⟩))
 go_ret2;exact⟨rfl,hs⟩
theorem copy_nil(hs:St w0 X L w){v:Value}(hv:NilV L v):Calls Tryz.prog 50 #[v] w fun e w'=>e=.returned (.pointer none)/\St w0 X L w':=by
 have HV:=Lib.hid hv
 clear hv
 go_enter Tryz.func50,Tryz.ntmps50
 go_wp2_with (first|(go_at_call 87;refine Calls.mono (none_nil hs HV.out) ?_;clear hs;rintro e w ⟨rfl,hs⟩))
 go_ret;exact⟨rfl,hs⟩
theorem outst_nil(hs:St w0 X L w){v:Value}(hv:NilV L v):Calls Tryz.prog 42 #[v] w fun e w'=>e=.returned (.slice none 0 0)/\St w0 X L w':=by
 have HV:=Lib.hid hv
 clear hv;refine Se.enterM Tryz.func42 rfl ?_;simp only[Tryz.ntmps42,List.size_toArray,List.length_cons,List.length_nil,Nat.reduceAdd,Nat.reduceSub,Array.replicate_succ,Array.replicate_zero,List.push_toArray,List.append_toArray,List.nil_append,List.cons_append]
 go_wp2_with (first|((with_reducible refine Se.iL 2 ?_);(refine Se.Al hs rfl (zSu) ?_;clear hs;rintro w g2-hs))|((with_reducible refine Se.iN ?_);(refine Se.So 0 hs rfl rfl rfl (by simp) ?_;clear hs;intro w hs;try simp only[pS] at hs))|(go_at_call 87;refine Calls.mono (none_nil hs (HV.out.mono (fun _ h=>List.mem_cons_of_mem _ h))) ?_;clear hs;rintro e w ⟨rfl,hs⟩))
 refine Se.leave0 (res_cell1 hs rfl rfl (Cell.blk 0 rfl rfl) (by kernel_rfl)) ?_;exact⟨rfl,hs.drop⟩
theorem reply_nil(hs:St w0 X L w){v:Value}(hv:NilV L v)(id:Int)(EV:List Value)(hE:EV.length=16)(A:Option Addr)(n c:Nat):Calls Tryz.prog 46 #[v,.int .u16 id,.agg EV.toArray,.slice A n c] w fun e w'=>e=.returned (iv 1)/\St w0 X L w':=by
 obtain⟨p,rfl⟩:∃ p,v=.pointer p:=by
  rcases hv with h|⟨g,h,_⟩
  ·exact⟨_,h⟩
  ·exact⟨_,h⟩
 have HV:=Lib.hid hv
 have EVL:=Lib.hid hE
 clear hv hE;refine Se.enterM Tryz.func46 rfl ?_;simp only[Tryz.ntmps46,List.size_toArray,List.length_cons,List.length_nil,Nat.reduceAdd,Nat.reduceSub,Array.replicate_succ,Array.replicate_zero,List.push_toArray,List.append_toArray,List.nil_append,List.cons_append]
 go_upto_region 1 with (first|((with_reducible refine Se.iL 4 ?_);(refine Se.toL rfl (Se.bx (o:=⟨some 4,_,_,_,_,_⟩) hs rfl rfl (l:=[.pointer p]) rfl ?_);clear hs;rintro w g4-hs))|((with_reducible refine Se.iL 5 ?_);(refine Se.toL rfl (Se.bx (o:=⟨some 5,_,_,_,_,_⟩) hs rfl rfl (l:=[.int .u16 id]) rfl ?_);clear hs;rintro w g5-hs))|((with_reducible refine Se.iL 6 ?_);(refine Se.toL rfl (Se.bx (o:=⟨some 6,_,_,_,_,_⟩) hs rfl rfl (l:=EV) rfl ?_);clear hs;rintro w g6-hs))|((with_reducible refine Se.iL 7 ?_);(refine Se.toL rfl (Se.bx (o:=⟨some 7,_,_,_,_,_⟩) hs rfl rfl (l:=[.slice A n c]) rfl ?_);clear hs;rintro w g7-hs))|((first|with_reducible refine Se.ab hs ?_|with_reducible refine Se.abc hs ?_);clear hs;(first|(generalize w.heap.size=g4;intro w hs)))|((first|with_reducible refine Se.ab hs ?_|with_reducible refine Se.abc hs ?_);clear hs;(first|(generalize w.heap.size=g5;intro w hs)))|((first|with_reducible refine Se.ab hs ?_|with_reducible refine Se.abc hs ?_);clear hs;(first|(generalize w.heap.size=g6;intro w hs)))|((first|with_reducible refine Se.ab hs ?_|with_reducible refine Se.abc hs ?_);clear hs;(first|(generalize w.heap.size=g7;intro w hs))))
 go_upto_region 3 with (first|((with_reducible refine Se.iL 14 ?_);(refine Se.Ld hs rfl rfl (Cell.blk 3 rfl rfl) ?_)))
 refine Calls.mono (none_nil hs (HV.out.mono (fun _ h=>by simp[h]))) ?_;clear hs;rintro e w⟨rfl,hs⟩
 go_wp2_with fail
 refine Se.leave0 (res1 rfl rfl) ?_;exact⟨rfl,hs.drop.drop.drop.drop⟩
end Sn
end Go.Proofs.YtjnllcnknjlmmaaGreat
namespace Go.Proofs.YtjnllcnknjlmmaaGreat
open Go Go.RowKit
namespace Sn
open Pd (PDU enc valid)
theorem inv_of{s:Ss}(hc:s.c.ok)(hm:s.r.mo=2097152)(hb:s.r.b.length<=4194304)(ht:s.tx=[])(hn:s.rp.length<=256):Inv s :=
 ⟨hc,by rw[hm];decide,hb,by rw[ht];exact fun x hx=>absurd hx List.not_mem_nil,by rw[ht];show 0+_<=_;omega,by rw[ht];exact List.nodup_nil⟩
theorem outZ_nil{s:Ss}(ht:s.tx=[])(hr:s.rp=[]):outZ s=[]:=by
 unfold outZ outE;rw[ht,hr];simp
theorem outZ_rp{s:Ss}{id:BitVec 16}{n:Nat}(ht:s.tx=[])(hr:s.rp=[(id,n)]):outZ s=[Bv.n16 id]:=by
 unfold outZ outE;rw[ht,hr];simp
def kc:Cf:=⟨false,false,0,16,4096,4096,2⟩
def kH:Bs:=enc (hello 0#8 3#8) f0
def kS1:Ss:=(feedE (newS kc) kH).1
def kO1:Bs:=enc { h:={ k:=1#8,mx:=4096#32 } } f0
def kS2:Ss:={ kS1 with out:=[] }
def kB:Bs:=entE 1#8 5#16 2 1#8
def kab:Bs:=[97#8,98#8]
def kP:PDU:={ h:={ k:=4#8 },en:=kB,da:=kab }
def kS3:Ss:=(feedE kS2 (enc kP f0)).1
def kE16:Bs:=List.replicate 16 0#8
def kS4:Ss:=(replyE kS3 5#16 kE16 []).1
def kR:PDU:={ h:={ k:=9#8,ln:=1#32 } }
def kS5:Ss:=(feedE kS4 (enc kR f0)).1
theorem kc_ok:kc.ok:=⟨by decide,by decide,by decide,by decide,by decide,by decide,by decide,by decide,by decide,by decide⟩
theorem kn1:feedE (newS kc) kH=(kS1,[],0):=by kernel_rfl
theorem kn1b:kS1.out=kO1/\kS1.st=2/\kS1.re=0/\kS1.tx=[]/\kS1.rp=[]/\kS1.r.mo=2097152/\kS1.r.b=[]/\kS1.c=kc/\kS1.r.nb=128/\kS1.r.np=1:=⟨by kernel_rfl,by kernel_rfl,by kernel_rfl,by kernel_rfl,by kernel_rfl,by kernel_rfl,by kernel_rfl,by kernel_rfl,by kernel_rfl,by kernel_rfl⟩
theorem kn3:feedE kS2 (enc kP f0)=(kS3,[⟨5#16,kB,kab,0⟩],0):=by kernel_rfl
theorem kn3b:kS3.out=[]/\kS3.st=2/\kS3.re=0/\kS3.tx=[]/\kS3.rp=[(5#16,0)]/\kS3.r.mo=2097152/\kS3.r.b=[]/\kS3.c=kc/\kS3.r.nb=202/\kS3.r.np=2:=⟨by kernel_rfl,by kernel_rfl,by kernel_rfl,by kernel_rfl,by kernel_rfl,by kernel_rfl,by kernel_rfl,by kernel_rfl,by kernel_rfl,by kernel_rfl⟩
theorem kn4:replyE kS3 5#16 kE16 []=(kS4,0):=by kernel_rfl
theorem kn4b:kS4.out.length=24/\kS4.st=2/\kS4.re=0/\kS4.tx=[]/\kS4.rp=[]/\kS4.r.mo=2097152/\kS4.r.b=[]/\kS4.c=kc/\kS4.r.nb=202/\kS4.r.np=2:=⟨by kernel_rfl,by kernel_rfl,by kernel_rfl,by kernel_rfl,by kernel_rfl,by kernel_rfl,by kernel_rfl,by kernel_rfl,by kernel_rfl,by kernel_rfl⟩
theorem kn5:replyE kS4 5#16 kE16 []=(kS4,9):=by kernel_rfl
theorem kn6:feedE kS4 (enc kR f0)=(kS5,[],0):=by kernel_rfl
theorem kn6b:kS5.st=3/\kS5.re=2/\kS5.tx=[]/\kS5.rp=[]:=⟨by kernel_rfl,by kernel_rfl,by kernel_rfl,by kernel_rfl⟩
theorem kn_len:kH.length=128/\kO1.length=128/\(enc kP f0).length=74/\(enc kR f0).length=24:=⟨by kernel_rfl,by kernel_rfl,by kernel_rfl,by kernel_rfl⟩
theorem kn_valid:valid (hello 0#8 3#8)=true/\valid { h:={ k:=1#8,mx:=4096#32 } }=true/\valid kP=true/\valid kR=true:=⟨by kernel_rfl,by kernel_rfl,by kernel_rfl,by kernel_rfl⟩
end Sn
end Go.Proofs.YtjnllcnknjlmmaaGreat
namespace Go.Proofs.YtjnllcnknjlmmaaGreat
open Go Go.RowKit
namespace Sn
open Pd (PDU enc pc iv fv strB)
open Se (St At Reads)
open Su (us srt u16)
open Li (v8 Rd)
open Bv (n16)
variable {w0 w:World} {X:List Nat} {L:List At}
attribute [local irreducible] Calls
def kCL:List Value:=[.bool false,.bool false,.int .i64 0,.int .i64 16,.int .i64 4096,.int .i64 4096,.int .i64 2]
theorem kS2_def:({ kS1 with out:=[] }:Ss)=kS2:=rfl
theorem kn2b:kS2.out=[]/\kS2.st=2/\kS2.re=0/\kS2.tx=[]/\kS2.rp=[]/\kS2.r.mo=2097152/\kS2.r.b=[]/\kS2.c=kc/\kS2.r.nb=128/\kS2.r.np=1:=⟨rfl,kn1b.2⟩
attribute [local irreducible] kS1 kS2 kS3 kS4 kS5
theorem bd_kc(w:World):(Instr.build 23 #[(3,.int .i64 16),(4,.int .i64 4096),(5,.int .i64 4096),(6,.int .i64 2)]).run Tryz.prog w=.ok (.agg kCL.toArray) w:=by kernel_rfl
theorem bd_kH(w:World):(Instr.build 65 #[(9,.int .u8 3)]).run Tryz.prog w=.ok (.agg (pc (hello 0#8 3#8).h none 0 0 none 0 0).toArray) w:=by kernel_rfl
def kI:PDU:={ h:={ k:=1#8,mx:=4096#32 } }
theorem bd_kI(w:World):(Instr.build 65 #[(0,.int .u8 1),(10,.int .u32 4096)]).run Tryz.prog w=.ok (.agg (pc kI.h none 0 0 none 0 0).toArray) w:=by kernel_rfl
theorem bd_kR(w:World):(Instr.build 65 #[(0,.int .u8 9),(7,.int .u32 1)]).run Tryz.prog w=.ok (.agg (pc kR.h none 0 0 none 0 0).toArray) w:=by kernel_rfl
theorem bd_e16(w:World):(Instr.build 98 #[]).run Tryz.prog w=.ok (.agg (kE16.map v8).toArray) w:=by kernel_rfl
theorem cvb{P:Program}{o:Oper}{a:Act}{G:Value->World->Prop}(hs:St w0 X L w){src dst e:TypeId}{x:Operand}(ho:o.op=.convert src dst x){A:Option Addr}{n c:Nat}(hx:a.eval x=.slice A n c){bs:List (BitVec 8)}(hr:Reads L A (bs.map v8))(hn:n=bs.length)(h1:P.underlying src=some (.slice e))(h2:P.underlying e=some (.int .u8))(h3:P.underlying dst=some .string)(h:G (.string (strB bs)) w):Hv.Gives P o a w G:=by
 unfold Hv.Gives execOp;simp only[ho,hx,Sem.run_bind,Pd.run_str w h1 h2 h3 hn (hr w hs.hold),Result.andThen_ok,Sem.run_pure];exact h
theorem feed_s{N:List At}{g:Nat}{s:Ss}{f:Pf}(hs:St w0 X (N++FF g s f L) w)(ok:OkP s f.k)(hi:Inv s)(x:Bs){A:Option Addr}{n c:Nat}(hn:n=x.length)(hx:Reads (N++L) A (x.map v8))(hnl:n<=4194304)
  (h1:s.r.nb+s.r.b.length<=8796093022208) (h2:s.r.np+s.r.b.length<=8796093022208) (h3:s.out.length<=8796093022208) {s':Ss} {e:Nat} (hr:feedE s x=(s',[],e)) :
  Calls Tryz.prog 37 #[.pointer (some ⟨g,0,none⟩),.slice A n c] w fun e' w'=>∃ RB rc f',e'=.returned (.tuple #[.slice RB 0 rc,iv e])/\Hid (OkP s' f'.k)/\St w0 X (N++FF g s' f' L) w':=by
 have hb:=hi.b
 refine(feed_m N hs ok hi x hn hx (by omega) (by omega) (by omega) (by omega) hr).mono ?_;rintro e' w' ⟨RB,rc,rq,rl,f',h4,h5,h6,h7⟩;exact⟨RB,rc,f',h4,Lib.hid h6,h7.sub (List.Sublist.cons _ (List.sublist_append_right _ _))⟩
theorem bd_rq3(z:Int)(B:List Value)(hB:B.length=64)(A:Option Addr)(n c:Nat)(w:World):(Instr.build 96 #[(0,.int .u16 z),(1,.agg B.toArray),(2,.slice A n c)]).run Tryz.prog w=.ok (.agg (Value.int .u16 z::(B++[Value.slice A n c,Value.int .i64 0])).toArray) w:=by
 refine run_plc (parts:=[(0,.int .u16 z),(1,.agg B.toArray),(2,.slice A n c)]) plc_rq ?_ w;rw[fill_one rfl rfl (by simp)];rw[List.set_cons_zero,fill_agg rfl (by rw[hB]) (by simp)];rw[fill_one rfl rfl (by simp[hB])];simp[Instr.fill,hB,List.set_append]
def kQ:Rq:=⟨5#16,kB,kab,0⟩
theorem kab_v:kab.map v8=[.int .u8 97,.int .u8 98]:=by kernel_rfl
theorem kB_len:kB.length=64:=entK_len _ _ _ _ 4
theorem same_kQ{M:List At}{w:World}{rl:List (Rq × Th)}{rq:Option Nat}{RB:Option Addr}{rc g1 g2:Nat}{E:List Value}(hE:E=kB.map v8)(h:rqo rl=[kQ])(h2:∀ x∈rl,x.1.en.length=64)
  (hs:St w0 X (.blk g2 96 (Value.int .u16 5::(E++[Value.slice (some ⟨g1,0,none⟩) 2 2,Value.int .i64 0]))::.rd (some ⟨g1,0,none⟩) [.int .u8 97,.int .u8 98]::.own 67 rq RB 1 rc (rqs rl)::(qAs rl++M)) w) :
  Calls Tryz.prog 40 #[.slice RB 1 rc,.slice (some ⟨g2,0,none⟩) 1 1] w fun e w'=>e=.returned (.bool true)/\St w0 X (.blk g2 96 (Value.int .u16 5::(E++[Value.slice (some ⟨g1,0,none⟩) 2 2,Value.int .i64 0]))::.rd (some ⟨g1,0,none⟩) [.int .u8 97,.int .u8 98]::.own 67 rq RB 1 rc (rqs rl)::(qAs rl++M)) w':=by
 obtain⟨ga,oa,hA,hrq⟩:=hs.own_at 2 rfl (by decide)
 have hl:rl.length=1:=by have:=congrArg List.length h;simpa [rqo] using this
 refine rsame_st hs (l1:=rl) (l2:=[(kQ,⟨none,some ⟨g1,0,none⟩,2⟩)]) h h2 (n:=1) hl.symm (fun _=>hA) (fun _=>rfl) (Reads.own 2 rfl) ?_ ?_ ?_ (by decide)
 ·have e:rqs [(kQ,(⟨none,some ⟨g1,0,none⟩,2⟩:Th))]=Value.int .u16 5::(E++[Value.slice (some ⟨g1,0,none⟩) 2 2,Value.int .i64 0]):=by
   rw[hE];unfold rqs;rw[List.flatMap_singleton]
   rfl
  rw[e];exact Reads.blk 0 rfl
 ·intro p hp
  have hm:qA p∈qAs rl:=List.mem_map.2 ⟨p,hp,rfl⟩
  obtain⟨i,hi⟩:=List.getElem?_of_mem hm
  exact Reads.own (i+3) (by
   show(qAs rl++M)[i]? = _
   rw[List.getElem?_append_left (List.getElem?_eq_some_iff.1 hi).1];exact hi)
 ·intro p hp
  obtain rfl:=List.mem_singleton.1 hp
  show Reads _ _ (kab.map v8)
  rw[kab_v];exact Reads.rd 1 rfl
theorem is_m(N:List At){g:Nat}{s:Ss}{f:Pf}(hs:St w0 X (N++FF g s f L) w)(ok:OkP s f.k)(hl:s.tx.length+s.rp.length<=12){zs:List Int}(hz:outZ s=zs)(x y:Int)(ids:List Int){B:Option Addr}{gb ob m c:Nat}(hm:m=ids.length)(hR:Reads (N++FF g s f L) B (us ids))(hB:0<m->B=some ⟨gb,ob,none⟩){b:Bool}(hb:isB s.st s.re zs x y ids=b) :
  Calls Tryz.prog 41 #[.pointer (some ⟨g,0,none⟩),.int .i64 x,.int .i64 y,.slice B m c] w fun e' w'=>e'=.returned (.bool b)/\St w0 X (N++FF g s f L) w':=by
 have hzl:zs.length<=12:=by
  rw[<-hz,<-outZ_srt];unfold srt;rw[List.length_mergeSort];simpa using hl
 rw[<-hb];refine is_st hs (fun w hs=>state_m N hs) (fun w hs=>?_) x y ids hm hR hB (by omega);refine(outst_m N hs ok hl).mono ?_;rw[hz];rintro e w' ⟨A,r,c,h1,h2⟩;exact⟨A,r,c,h1,h2⟩
theorem reply_e{g:Nat}{s:Ss}{f:Pf}(hs:St w0 X (FF g s f L) w)(ok:OkP s f.k)(id:BitVec 16)(en:Bs)(he:en.length=16)(h1:1<=s.c.md)(h2:s.c.md<=1048576)(hb:s.out.length<=8796093022208){s':Ss}{e:Nat}(hr:replyE s id en []=(s',e)) :
  Calls Tryz.prog 46 #[.pointer (some ⟨g,0,none⟩),.int .u16 (n16 id),.agg (en.map v8).toArray,.slice none 0 0] w fun e' w'=>∃ f',e'=.returned (iv e)/\Hid (OkP s' f'.k)/\St w0 X (FF g s' f' L) w':=by
 refine(reply_m [] hs ok id en [] he (gd:=0) (od:=0) (n:=0) rfl Reads.nil (Nat.le_refl _) (fun h=>absurd h (Nat.lt_irrefl _)) h1 h2 (by omega) hr).mono ?_;rintro e' w' ⟨f',h3,h4,h5⟩;exact⟨f',h3,Lib.hid h4,h5⟩
theorem known_st(hs:St w0 X L w):Calls Tryz.prog 35 #[] w fun e' w'=>e'=.returned (.bool true)/\St w0 X L w':=by
 obtain⟨CL,hCL⟩:∃ C,C=kCL:=⟨_,rfl⟩
 obtain⟨P1,hP1⟩:∃ P,P=pc (hello 0#8 3#8).h none 0 0 none 0 0:=⟨_,rfl⟩
 obtain⟨P2,hP2⟩:∃ P,P=pc kI.h none 0 0 none 0 0:=⟨_,rfl⟩
 obtain⟨P3,hP3⟩:∃ P,P=pc kR.h none 0 0 none 0 0:=⟨_,rfl⟩
 obtain⟨E6,hE6⟩:∃ E,E=kE16.map v8:=⟨_,rfl⟩
 obtain⟨EB,hEB⟩:∃ E,E=kB.map v8:=⟨_,rfl⟩
 obtain⟨H,hH⟩:∃ b,b=kH:=⟨_,rfl⟩
 obtain⟨O1,hO1⟩:∃ b,b=kO1:=⟨_,rfl⟩
 obtain⟨CM,hCM⟩:∃ b,b=enc kP f0:=⟨_,rfl⟩
 obtain⟨RR,hRR⟩:∃ b,b=enc kR f0:=⟨_,rfl⟩
 obtain⟨l1,l2,l3,l4⟩:=kn_len
 obtain⟨v1,v2,v3,v4⟩:=kn_valid
 have EBL:=Lib.hid (show EB.length=64 by rw[hEB,List.length_map];exact kB_len)
 have EBO:=Lib.hid (show ∀ v∈EB,v.oneCell'=true by rw[hEB];intro v hv;obtain⟨b,_,rfl⟩:=List.mem_map.1 hv;rfl)
 have KL:=Lib.hid (show 128=O1.length by rw[hO1,l2])
 have BC:Hid (∀ w:World,(Instr.build 23 #[(3,.int .i64 16),(4,.int .i64 4096),(5,.int .i64 4096),(6,.int .i64 2)]).run Tryz.prog w=.ok (.agg CL.toArray) w):=Lib.hid (by rw[hCL];exact bd_kc)
 have B1:Hid (∀ w:World,(Instr.build 65 #[(9,.int .u8 3)]).run Tryz.prog w=.ok (.agg P1.toArray) w):=Lib.hid (by rw[hP1];exact bd_kH)
 have B2:Hid (∀ w:World,(Instr.build 65 #[(0,.int .u8 1),(10,.int .u32 4096)]).run Tryz.prog w=.ok (.agg P2.toArray) w):=Lib.hid (by rw[hP2];exact bd_kI)
 have B3:Hid (∀ w:World,(Instr.build 65 #[(0,.int .u8 9),(7,.int .u32 1)]).run Tryz.prog w=.ok (.agg P3.toArray) w):=Lib.hid (by rw[hP3];exact bd_kR)
 have B6:Hid (∀ w:World,(Instr.build 98 #[]).run Tryz.prog w=.ok (.agg E6.toArray) w):=Lib.hid (by rw[hE6];exact bd_e16)
 have BQ:Hid (∀ (A:Option Addr) (n c:Nat) (w:World),(Instr.build 96 #[(0,.int .u16 5),(1,.agg EB.toArray),(2,.slice A n c)]).run Tryz.prog w=.ok (.agg (Value.int .u16 5::(EB++[Value.slice A n c,Value.int .i64 0])).toArray) w):=Lib.hid (bd_rq3 5 EB EBL.out)
 have CN:Hid (∀ w,St w0 X L w->Calls Tryz.prog 36 #[.agg CL.toArray] w fun e w'=>∃ g f,e=.returned (.tuple #[.pointer (some ⟨g,0,none⟩),iv 0])/\Hid (OkP (newS kc) f.k)/\St w0 X (FF g (newS kc) f L) w'):=Lib.hid (fun w hs=>by
  rw[hCL];refine(snew_yes hs (rwC kc) (rwC_ok kc_ok).1).mono ?_;rintro e w' ⟨g,f,h3,h4,h5⟩;exact⟨g,f,h3,Lib.hid h4,h5⟩)
 have CE:Hid (∀ (M:List At) w (p:PDU) (PL:List Value) (m:Nat) (B:Bs),PL=pc p.h none 0 0 none 0 0->p.en=[]->p.da=[]->B=enc p f0->Pd.valid p=true->m=B.length->St w0 X M w->Calls Tryz.prog 28 #[.agg PL.toArray,fv f0] w fun e' w'=>∃ r A c,e'=.returned (.slice A m c)/\St w0 X (.own 1 r A m c (B.map v8)::M) w'):=Lib.hid (fun M w p PL m B hp h1 h2 h3 h4 h5 hs=>by
  rw[hp,h3];exact Pd.rEncode_st hs p f0 (by rw[h1];exact Reads.nil) (by rw[h2];exact Reads.nil) (by rw[h1];rfl) (by rw[h2];rfl) rfl h4 (by rw[h5,h3]))
 have CE1:Hid (∀ (M:List At) w,St w0 X M w->Calls Tryz.prog 28 #[.agg P1.toArray,fv f0] w fun e' w'=>∃ r A c,e'=.returned (.slice A 128 c)/\St w0 X (.own 1 r A 128 c (H.map v8)::M) w'):=Lib.hid (fun M w hs=>CE.out M w _ P1 128 H hP1 rfl rfl hH v1 (by rw[hH,l1]) hs)
 have CE2:Hid (∀ (M:List At) w,St w0 X M w->Calls Tryz.prog 28 #[.agg P2.toArray,fv f0] w fun e' w'=>∃ r A c,e'=.returned (.slice A 128 c)/\St w0 X (.own 1 r A 128 c (O1.map v8)::M) w'):=Lib.hid (fun M w hs=>CE.out M w kI P2 128 O1 hP2 rfl rfl hO1 v2 (by rw[hO1,l2]) hs)
 have CE3:Hid (∀ (M:List At) w,St w0 X M w->Calls Tryz.prog 28 #[.agg P3.toArray,fv f0] w fun e' w'=>∃ r A c,e'=.returned (.slice A 24 c)/\St w0 X (.own 1 r A 24 c (RR.map v8)::M) w'):=Lib.hid (fun M w hs=>CE.out M w kR P3 24 RR hP3 rfl rfl hRR v4 (by rw[hRR,l4]) hs)
 clear CE
 have CF1:Hid (∀ (r:Option Nat) (A:Option Addr) (c g:Nat) (f:Pf) w,Hid (OkP (newS kc) f.k)->St w0 X (.own 1 r A 128 c (H.map v8)::FF g (newS kc) f L) w->Calls Tryz.prog 37 #[.pointer (some ⟨g,0,none⟩),.slice A 128 c] w fun e' w'=>∃ RB rc f',e'=.returned (.tuple #[.slice RB 0 rc,iv 0])/\Hid (OkP kS1 f'.k)/\St w0 X (FF g kS1 f' L) w'):=Lib.hid (fun r A c g f w ok hs=>by
  refine(feed_s (N:=[.own 1 r A 128 c (H.map v8)]) hs ok.out (inv_new kc_ok) H (by rw[hH,l1]) (Reads.own 0 rfl) (by decide) (by decide) (by decide) (by decide) (by rw[hH];exact kn1)).mono ?_;rintro e' w' ⟨RB,rc,f',h4,h5,h6⟩;exact⟨RB,rc,f',h4,h5,h6.drop⟩)
 obtain⟨q1,q2,q3,q4,q5,q6,q7,q8,q9,q0⟩:=kn1b
 have CO:Hid (∀ (g:Nat) (f:Pf) w,Hid (OkP kS1 f.k)->St w0 X (FF g kS1 f L) w->Calls Tryz.prog 39 #[.pointer (some ⟨g,0,none⟩)] w fun e' w'=>∃ A r c f',e'=.returned (.slice A 128 c)/\Hid (OkP kS2 f'.k)/\St w0 X (.own 1 r A 128 c (O1.map v8)::FF g kS2 f' L) w'):=Lib.hid (fun g f w ok hs=>by
  refine(output_m [] hs ok.out).mono ?_;rintro e' w' ⟨A,r,c,f',h1,h2,h3⟩;rw[q1,l2] at h1 h3;rw[kS2_def] at h2 h3;exact⟨A,r,c,f',h1,Lib.hid h2,by rw[hO1];exact h3⟩)
 obtain⟨s1,s2,s3,s4,s5,s6,s7,s8,s9,s0⟩:=kn2b
 have i2:Inv kS2:=inv_of (by rw[s8];exact kc_ok) s6 (by rw[s7] <;> decide) s4 (by rw[s5] <;> decide)
 have CI1:Hid (∀ (M:List At) (g:Nat) (f:Pf) w,Hid (OkP kS2 f.k)->St w0 X (M++FF g kS2 f L) w->Calls Tryz.prog 41 #[.pointer (some ⟨g,0,none⟩),.int .i64 2,.int .i64 0,.slice none 0 0] w fun e' w'=>e'=.returned (.bool true)/\St w0 X (M++FF g kS2 f L) w'):=Lib.hid (fun M g f w ok hs =>
  is_m M hs ok.out (by rw[s4,s5] <;> decide) (outZ_nil s4 s5) 2 0 [] (gb:=0) (ob:=0) rfl Reads.nil (fun h=>absurd h (Nat.lt_irrefl _)) (by rw[s2,s3] <;> decide))
 have CEn:Hid (∀ (M:List At) w,St w0 X M w->Calls Tryz.prog 29 #[.int .u8 1,.int .u16 5,.int .i64 2,.int .u8 1] w fun e w'=>e=.returned (.agg EB.toArray)/\St w0 X M w'):=Lib.hid (fun M w hs=>by rw[hEB];exact entry_st hs 1#8 5#16 2 1#8 (by decide))
 have CCm:Hid (∀ (M:List At) w (A:Option Addr) (c:Nat),Reads M A [.int .u8 97,.int .u8 98]->St w0 X M w->Calls Tryz.prog 44 #[fv f0,.agg EB.toArray,.slice A 2 c] w fun e w'=>∃ r B c',e=.returned (.slice B 74 c')/\St w0 X (.own 1 r B 74 c' (CM.map v8)::M) w'):=Lib.hid (fun M w A c hr hs=>by
  rw[hEB,hCM];exact lcmd_st hs f0 kB kab kB_len (n:=2) rfl (by rw[kab_v];exact hr) rfl v3 l3.symm)
 have CF3:Hid (∀ (r:Option Nat) (A:Option Addr) (c g6:Nat) (a1:At) (g:Nat) (f:Pf) w,Hid (OkP kS2 f.k)->St w0 X (.own 1 r A 74 c (CM.map v8)::a1::.blk g6 37 EB::FF g kS2 f L) w->Calls Tryz.prog 37 #[.pointer (some ⟨g,0,none⟩),.slice A 74 c] w fun e' w'=>∃ RB rc rq rl f',e'=.returned (.tuple #[.slice RB 1 rc,iv 0])/\Hid (rqo rl=[kQ]/\∀ x∈rl,x.1.en.length=64)/\Hid (OkP kS3 f'.k)/\St w0 X (.blk g6 37 EB::.own 67 rq RB 1 rc (rqs rl)::(qAs rl++FF g kS3 f' L)) w'):=Lib.hid (fun r A c g6 a1 g f w ok hs=>by
  refine(feed_m [.own 1 r A 74 c (CM.map v8),a1,.blk g6 37 EB] hs ok.out i2 CM (by rw[hCM,l3]) (Reads.own 0 rfl) (by decide) (by rw[s7,s9] <;> decide) (by rw[s7,s0] <;> decide) (by rw[s1,s7] <;> decide) (s':=kS3) (l:=[kQ]) (e:=0) (by rw[hCM];exact kn3)).mono ?_;rintro e' w' ⟨RB,rc,rq,rl,f',h4,h5,h6,h7⟩;refine⟨RB,rc,rq,rl,f',h4,h5,Lib.hid h6,?_⟩
  have h8:=h7.sub (L':=.own 67 rq RB 1 rc (rqs rl)::(qAs rl++([.blk g6 37 EB]++FF g kS3 f' L))) (List.Sublist.cons_cons _ (List.Sublist.append_left (List.Sublist.cons _ (List.Sublist.cons _ (List.Sublist.refl _))) _))
  exact h8.perm (List.perm_append_comm_assoc (.own 67 rq RB 1 rc (rqs rl)::qAs rl) [_] _))
 obtain⟨p1,p2,p3,p4,p5,p6,p7,p8,p9,p0⟩:=kn3b
 have i3:Inv kS3:=inv_of (by rw[p8];exact kc_ok) p6 (by rw[p7] <;> decide) p4 (by rw[p5] <;> decide)
 have CS:Hid (∀ (M:List At) (a6:At) (g1 g2 RC:Nat) (rl:List (Rq × Th)) (rq:Option Nat) (RB:Option Addr) w,Hid (rqo rl=[kQ]/\∀ x∈rl,x.1.en.length=64)->St w0 X (.blk g2 96 (Value.int .u16 5::(EB++[Value.slice (some ⟨g1,0,none⟩) 2 2,Value.int .i64 0]))::.rd (some ⟨g1,0,none⟩) [.int .u8 97,.int .u8 98]::a6::.own 67 rq RB 1 RC (rqs rl)::(qAs rl++M)) w->Calls Tryz.prog 40 #[.slice RB 1 RC,.slice (some ⟨g2,0,none⟩) 1 1] w fun e w'=>e=.returned (.bool true)/\St w0 X (M) w'):=Lib.hid (fun M a6 g1 g2 RC rl rq RB w h hs=>by
  refine(same_kQ hEB h.out.1 h.out.2 (hs.sub (List.Sublist.cons_cons _ (List.Sublist.cons_cons _ (List.Sublist.cons _ (List.Sublist.refl _)))))).mono ?_;rintro e w⟨h1,h2⟩;exact⟨h1,h2.sub (List.Sublist.cons _ (List.Sublist.cons _ (List.Sublist.cons _ (List.sublist_append_right _ _))))⟩)
 have CI3:Hid (∀ (g8 g:Nat) (f:Pf) w,Hid (OkP kS3 f.k)->St w0 X (.blk g8 40 [.int .u16 5]::FF g kS3 f L) w->Calls Tryz.prog 41 #[.pointer (some ⟨g,0,none⟩),.int .i64 2,.int .i64 0,.slice (some ⟨g8,0,none⟩) 1 1] w fun e' w'=>e'=.returned (.bool true)/\St w0 X (FF g kS3 f L) w'):=Lib.hid (fun g8 g f w ok hs=>by
  refine(is_m [.blk g8 40 [.int .u16 5]] hs ok.out (by rw[p4,p5] <;> decide) (outZ_rp p4 p5) 2 0 [5] rfl (Reads.blk 0 rfl) (fun _=>rfl) (b:=true) (by rw[p2,p3] <;> decide)).mono ?_;rintro e w' ⟨h1,h2⟩;exact⟨h1,h2.drop⟩)
 have CR1:Hid (∀ (g:Nat) (f:Pf) w,Hid (OkP kS3 f.k)->St w0 X (FF g kS3 f L) w->Calls Tryz.prog 46 #[.pointer (some ⟨g,0,none⟩),.int .u16 5,.agg E6.toArray,.slice none 0 0] w fun e' w'=>∃ f',e'=.returned (iv 0)/\Hid (OkP kS4 f'.k)/\St w0 X (FF g kS4 f' L) w'):=Lib.hid (fun g f w ok hs=>by
  rw[hE6];exact reply_e hs ok.out 5#16 kE16 rfl (by rw[p8] <;> decide) (by rw[p8] <;> decide) (by rw[p1] <;> decide) kn4)
 obtain⟨o1,o2,o3,o4,o5,o6,o7,o8,o9,o0⟩:=kn4b
 have i4:Inv kS4:=inv_of (by rw[o8];exact kc_ok) o6 (by rw[o7] <;> decide) o4 (by rw[o5] <;> decide)
 have CR2:Hid (∀ (g:Nat) (f:Pf) w,Hid (OkP kS4 f.k)->St w0 X (FF g kS4 f L) w->Calls Tryz.prog 46 #[.pointer (some ⟨g,0,none⟩),.int .u16 5,.agg E6.toArray,.slice none 0 0] w fun e' w'=>∃ f',e'=.returned (iv 9)/\Hid (OkP kS4 f'.k)/\St w0 X (FF g kS4 f' L) w'):=Lib.hid (fun g f w ok hs=>by
  rw[hE6];exact reply_e hs ok.out 5#16 kE16 rfl (by rw[o8] <;> decide) (by rw[o8] <;> decide) (by rw[o1] <;> decide) kn5)
 have CF6:Hid (∀ (r:Option Nat) (A:Option Addr) (c g:Nat) (f:Pf) w,Hid (OkP kS4 f.k)->St w0 X (.own 1 r A 24 c (RR.map v8)::FF g kS4 f L) w->Calls Tryz.prog 37 #[.pointer (some ⟨g,0,none⟩),.slice A 24 c] w fun e' w'=>∃ RB rc f',e'=.returned (.tuple #[.slice RB 0 rc,iv 0])/\Hid (OkP kS5 f'.k)/\St w0 X (FF g kS5 f' L) w'):=Lib.hid (fun r A c g f w ok hs=>by
  refine(feed_s (N:=[.own 1 r A 24 c (RR.map v8)]) hs ok.out i4 RR (by rw[hRR,l4]) (Reads.own 0 rfl) (by decide) (by rw[o7,o9] <;> decide) (by rw[o7,o0] <;> decide) (by rw[o1] <;> decide) (by rw[hRR];exact kn6)).mono ?_;rintro e' w' ⟨RB,rc,f',h4,h5,h6⟩;exact⟨RB,rc,f',h4,h5,h6.drop⟩)
 obtain⟨m1,m2,m3,m4⟩:=kn6b
 have CI6:Hid (∀ (g:Nat) (f:Pf) w,Hid (OkP kS5 f.k)->St w0 X (FF g kS5 f L) w->Calls Tryz.prog 41 #[.pointer (some ⟨g,0,none⟩),.int .i64 3,.int .i64 2,.slice none 0 0] w fun e' w'=>e'=.returned (.bool true)/\St w0 X L w'):=Lib.hid (fun g f w ok hs=>by
  refine(is_m [] hs ok.out (by rw[m3,m4] <;> decide) (outZ_nil m3 m4) 3 2 [] (gb:=0) (ob:=0) rfl Reads.nil (fun h=>absurd h (Nat.lt_irrefl _)) (b:=true) (by rw[m1,m2] <;> decide)).mono ?_;rintro e w' ⟨h1,h2⟩;refine⟨h1,h2.sub ?_⟩;exact List.Sublist.cons _ (List.Sublist.cons _ (List.Sublist.cons _ (List.Sublist.cons _ (List.Sublist.cons _ (List.Sublist.cons _ (List.Sublist.cons _ (List.sublist_append_of_sublist_right (List.sublist_append_right _ _)))))))))
 clear hCL hP1 hP2 hP3 hE6 hEB hH hO1 hCM hRR l1 l2 l3 l4 v1 v2 v3 v4 q1 q2 q3 q4 q5 q6 q7 q8 q9 q0 s1 s2 s3 s4 s5 s6 s7 s8 s9 s0 p1 p2 p3 p4 p5 p6 p7 p8 p9 p0 o1 o2 o3 o4 o5 o6 o7 o8 o9 o0 m1 m2 m3 m4 i2 i3 i4
 go_enter Tryz.func35,Tryz.ntmps35
 go_upto_region 6 with (first|((with_reducible refine Se.iL 14 ?_);(refine Se.Bd rfl rfl (BC.out _) ?_))|((with_reducible refine Se.iL 26 ?_);(refine Se.Bd rfl rfl (B1.out _) ?_))|((with_reducible refine Se.iL 27 ?_);(refine Se.Bd rfl rfl (bd_fm0 _) ?_))|(go_at_call 36;refine Calls.mono (CN.out _ hs) ?_;clear hs;rintro e w ⟨g,f,rfl,ok,hs⟩)|(go_at_call 28;refine Calls.mono (CE1.out _ _ hs) ?_;clear hs;rintro e w ⟨r,A,c,rfl,hs⟩)|(go_at_call 37;refine Calls.mono (CF1.out _ _ _ _ _ _ ok hs) ?_;clear hs;rintro e w ⟨RB,rc,f1,rfl,ok1,hs⟩)|(go_at_call 39;refine Calls.mono (CO.out _ _ _ ok1 hs) ?_;clear hs;rintro e w ⟨A2,r2,c2,f2,rfl,ok2,hs⟩))
 clear CN CE1 CF1 CO ok ok1;refine Ch.region' 21 (fun wx=>Rd wx A2 (O1.map v8)) (fun|12=>true|13=>true|18=>true|_=>false) (by kernel_rfl) (by decide +kernel) ((Reads.own 0 rfl) _ hs.drew.hold) ?_;replace hs:=hs.drew;generalize w.drew=w at hs ⊢;change Ch.CW _ _ _ _ _ [0,1,2,3,4,5,6,7,8,9,10,11,12,13,14,15,16,17,18,19,20] _ _
 iterate 10 ((first|refine Ch.pA ?_|refine Ch.pE (hv:=fun wx hS=>xcv rfl rfl KL.out hS Tryz.underlying24 Tryz.underlying5 Tryz.underlying9) (h:=?_));(try simp only[pU]))
 refine Ch.pE (v:=.agg P2.toArray) (hv:=fun wx hS=>Pd.xbd rfl (vs:=[(0,.int .u8 1),(10,.int .u32 4096)]) rfl (B2.out _)) (h:=?_);(try simp only[pU]);refine Ch.pE (v:=fv f0) (hv:=fun wx hS=>Pd.xbd rfl (vs:=[]) rfl (bd_fm0 _)) (h:=?_);(try simp only[pU]);refine Ch.cA (f:=28) (args:=#[.agg P2.toArray,fv f0]) (CE2.out _ _ hs) ?_;clear hs;rintro e w⟨r3,A3,c3,rfl,hs⟩;refine⟨_,rfl,(Reads.own 1 rfl) _ hs.hold,?_⟩;(try simp only[pU]);refine Ch.nA (h:=cvb hs rfl rfl (Reads.own 0 rfl) KL.out Tryz.underlying24 Tryz.underlying5 Tryz.underlying9 ?_);refine⟨(Reads.own 1 rfl) _ hs.hold,?_⟩;(try simp only[pU])
 iterate 4 (refine Ch.pA ?_;(try simp only[pU]))
 refine Ch.cA (f:=41) (args:=#[.pointer (some ⟨g,0,none⟩),.int .i64 2,.int .i64 0,.slice none 0 0]) (CI1.out [_,_] _ _ _ ok2 hs) ?_;clear hs;rintro e w⟨rfl,hs⟩;refine⟨_,rfl,(Reads.own 1 rfl) _ hs.hold,?_⟩;(try simp only[pU])
 iterate 2 (refine Ch.pA ?_;(try simp only[pU]))
 refine Ch.done ?_
 try simp only[List.drop_succ_cons,List.drop_zero]
 clear CE2 CI1;replace hs:=hs.drop.drop
 go_upto_region 9 with (first|((with_reducible refine Se.iL 6 ?_);(refine Se.Al hs rfl (arr_z) ?_;clear hs;rintro w g6-hs))|((with_reducible refine Se.iN ?_);(refine Se.Sow 0 hs rfl rfl rfl rfl (EBO.out) (by rw[EBL.out];kernel_rfl) (by rw[EBL.out];rfl) ?_;clear hs;intro w hs;try simp only[pS] at hs))|(go_at_call 29;refine Calls.mono (CEn.out _ _ hs) ?_;clear hs;rintro e w ⟨rfl,hs⟩))
 clear CEn
 go_upto_region 10 with (first|((with_reducible refine Se.iL 59 ?_);(refine Se.Ldw hs rfl rfl (Reads.blk 0 rfl) (by rw[EBL.out];kernel_rfl) ?_))|((with_reducible refine Se.iL 58 ?_);(refine Se.Bd rfl rfl (bd_fm0 _) ?_))|((with_reducible refine Se.iL 60 ?_);(refine Se.toL rfl (Se.bsv (o:=⟨some 60,_,_,_,_,_⟩) hs rfl Tryz.underlying24 Pd.u8i rfl ([.int .u8 97,.int .u8 98]) (by rfl) (by rfl) (by decide) (by decide) (by simp[Value.oneCell']) ?_);clear hs;rintro w g60-hs))|(with_reducible refine Se.isL (o:=⟨some 61,_,_,_,_,_⟩) ?_;refine Se.toL rfl (Se.cvs (o:=⟨some 61,_,_,_,_,_⟩) (g:=g60) hs rfl rfl Tryz.underlying24 Tryz.underlying5 ?_);clear hs;intro w hs)|(go_at_call 44;refine Calls.mono (CCm.out _ _ _ _ (Reads.rd 0 rfl) hs) ?_;clear hs;rintro e w ⟨r4,A4,c4,rfl,hs⟩)|(go_at_call 37;refine Calls.mono (CF3.out _ _ _ _ _ _ _ _ ok2 hs) ?_;clear hs;rintro e w ⟨RB3,rc3,rq3,rl3,f3,rfl,hrl3,ok3,hs⟩))
 clear CCm CF3 ok2
 go_upto_region 12 with (first|((with_reducible refine Se.iL 70 ?_);(refine Se.Ldw hs rfl rfl (Reads.blk 0 rfl) (by rw[EBL.out];kernel_rfl) ?_))|((with_reducible refine Se.iL 71 ?_);(refine Se.toL rfl (Se.bsv (o:=⟨some 71,_,_,_,_,_⟩) hs rfl Tryz.underlying24 Pd.u8i rfl ([.int .u8 97,.int .u8 98]) (by rfl) (by rfl) (by decide) (by decide) (by simp[Value.oneCell']) ?_);clear hs;rintro w g71-hs))|((with_reducible refine Se.iL 73 ?_);(refine Se.Bd rfl rfl (BQ.out _ _ _ _) ?_))|((with_reducible refine Se.iL 74 ?_);(refine Se.toL rfl (Se.bs1 (o:=⟨some 74,_,_,_,_,_⟩) hs rfl Tryz.underlying86 rq_i3 (by decide) (by decide) rfl (by simp[EBL.out]) ?_);clear hs;rintro w g74-hs))|((with_reducible refine Se.iL 80 ?_);(refine Se.toL rfl (Se.bsv (o:=⟨some 80,_,_,_,_,_⟩) hs rfl Tryz.underlying26 u16_i rfl ([.int .u16 5]) (by rfl) (by rfl) (by decide) (by decide) (by simp[Value.oneCell']) ?_);clear hs;rintro w g80-hs))|(with_reducible refine Se.isL (o:=⟨some 72,_,_,_,_,_⟩) ?_;refine Se.toL rfl (Se.cvs (o:=⟨some 72,_,_,_,_,_⟩) (g:=g71) hs rfl rfl Tryz.underlying24 Tryz.underlying5 ?_);clear hs;intro w hs)|(go_at_call 40;refine Calls.mono (CS.out _ _ _ _ _ _ _ _ _ hrl3 hs) ?_;clear hs;rintro e w ⟨rfl,hs⟩)|(go_at_call 41;refine Calls.mono (CI3.out _ _ _ _ ok3 hs) ?_;clear hs;rintro e w ⟨rfl,hs⟩))
 clear CS CI3 hrl3
 go_upto_region 13 with (first|((with_reducible refine Se.iL 85 ?_);(refine Se.Bd rfl rfl (B6.out _) ?_))|((with_reducible refine Se.iL 88 ?_);(refine Se.Bd rfl rfl (B6.out _) ?_))|(go_at_call 46;refine Calls.mono (CR1.out _ _ _ ok3 hs) ?_;clear hs;rintro e w ⟨f4,rfl,ok4,hs⟩)|(go_at_call 46;refine Calls.mono (CR2.out _ _ _ ok4 hs) ?_;clear hs;rintro e w ⟨f5,rfl,ok5,hs⟩))
 clear CR1 CR2 ok3 ok4
 go_wp2_with (first|((with_reducible refine Se.iL 92 ?_);(refine Se.Bd rfl rfl (B3.out _) ?_))|((with_reducible refine Se.iL 93 ?_);(refine Se.Bd rfl rfl (bd_fm0 _) ?_))|(go_at_call 28;refine Calls.mono (CE3.out _ _ hs) ?_;clear hs;rintro e w ⟨r6,A6,c6,rfl,hs⟩)|(go_at_call 37;refine Calls.mono (CF6.out _ _ _ _ _ _ ok5 hs) ?_;clear hs;rintro e w ⟨RB6,rc6,f6,rfl,ok6,hs⟩)|(go_at_call 41;refine Calls.mono (CI6.out _ _ _ ok6 hs) ?_;clear hs;rintro e w ⟨rfl,hs⟩))
 go_ret;exact⟨rfl,hs⟩
end Sn
end Go.Proofs.YtjnllcnknjlmmaaGreat
