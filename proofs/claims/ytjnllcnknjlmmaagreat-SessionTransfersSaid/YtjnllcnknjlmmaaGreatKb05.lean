/- Layer 41. -/
import Derived.Test.YtjnllcnknjlmmaaGreatKa19
import Derived.Test.YtjnllcnknjlmmaaGreatKb04
set_option linter.unusedSimpArgs false
set_option linter.unusedVariables false
set_option maxRecDepth 100000
set_option maxHeartbeats 4000000
namespace Go.Proofs.YtjnllcnknjlmmaaGreat
open Go Go.RowKit
namespace Sr
open Pd (Fm PDU meas dec pc iv fl fv)
open Se (St At Reads Cell)
open Li (v8 Rd Blk)
variable {w0 w:World} {X:List Nat} {L:List At} {s s':Rc} {g c:Nat} {B:Option Addr} {r:Option Nat}
attribute [local irreducible] Calls
theorem rDecodeK_st(M:List At)(hs:St w0 X (M++L) w)(bs:List (BitVec 8))(f:Fm){S:Option Addr}{n c:Nat}(hn:n=bs.length)(hS:Reads L S (bs.map v8))(hc:n<=c)(hle:n<=70368744177664){P:PDU}{e:Nat}(hd:dec bs f=(P,e)) :
  Calls Tryz.prog 152 #[.slice S n c,fv f] w fun r w'=>∃ EA ec DA dc PC,r=.returned (.tuple #[.agg PC.toArray,iv e])/\Hid (PC=pc P.h EA P.en.length ec DA P.da.length dc)/\Hid (Reads L EA (P.en.map v8))/\Hid (Reads L DA (P.da.map v8))/\St w0 X (M++L) w':=by
 have h0:St w [] [.rd S (bs.map v8)] w:=Pd.rd1 ((hS.app M) w hs.hold)
 have up:∀ {A:Option Addr} {xs:List Value},Reads [.rd S (bs.map v8)] A xs->Reads L A xs:=fun h w' hw=>h w' (by
  intro a ha;simp only[List.mem_singleton] at ha;subst ha;exact hS w' hw)
 refine(Pd.rDecodeN_st h0 bs f hn (Reads.rd 0 rfl) hc hle hd).mono ?_;rintro r w' ⟨EA,ec,DA,dc,PC,h1,h2,h3,h4,h5⟩;exact⟨EA,ec,DA,dc,PC,h1,h2,Lib.hid (up h3.out),Lib.hid (up h4.out),hs.ext h5.below⟩
theorem rtake_st(hs:St w0 X L w)(hB:Reads L B (s.b.map v8))(hc:s.b.length<=c)(hl:s.b.length<=4194304){p:PDU}{n e:Nat}(hr:takeE s=(p,n,e)) :
  Calls Tryz.prog 115 #[.agg (rcl s B c).toArray] w fun e' w'=>∃ EA ec DA dc PC,e'=.returned (.tuple #[.agg PC.toArray,iv n,iv e])/\Hid (PC=pc p.h EA p.en.length ec DA p.da.length dc)/\Hid (Reads L EA (p.en.map v8))/\Hid (Reads L DA (p.da.map v8))/\St w0 X L w':=by
 obtain⟨RL,hRL⟩:∃ RL,RL=rcl s B c:=⟨_,rfl⟩
 obtain⟨m,hm0⟩:∃ m,m=s.b.length:=⟨_,rfl⟩
 obtain⟨mo,hmo⟩:∃ m,m=s.mo:=⟨_,rfl⟩
 obtain⟨F,hF⟩:∃ F,F=fl s.f:=⟨_,rfl⟩
 obtain⟨⟨t,em⟩,hm⟩:∃ x,meas s.b s.f=x:=⟨_,rfl⟩
 obtain⟨Z,hZ⟩:∃ Z,Z=pc {} none 0 0 none 0 0:=⟨_,rfl⟩
 have FL:=Lib.hid (show F.length=3 by rw[hF];rfl)
 have ZL:=Lib.hid (show Z.length=14 by rw[hZ];rfl)
 have ZO:=Lib.hid (show ∀ v∈Z,v.oneCell'=true by rw[hZ];exact Pd.pc_one _ _ _ _ _ _ _)
 have HZ:Hid ((Tryz.prog.info? 65).bind (fun i=>i.zero.map (·.cells.toList))=some Z):=Lib.hid (by rw[hZ];exact zP0)
 have BP:Hid (∀ w:World,(Instr.build 65 #[]).run Tryz.prog w=.ok (.agg Z.toArray) w):=Lib.hid (by rw[hZ];exact bP0)
 have HZE:=Lib.hid hZ
 have RLen:=Lib.hid (show RL.length=8 by rw[hRL];rfl)
 have R3:=Lib.hid (show RL[3]? = some (iv mo) by rw[hRL,hmo];rfl)
 have R4:=Lib.hid (show RL[4]? = some (.slice B m c) by rw[hRL,hm0];rfl)
 have RF:=Lib.hid (show RL.take 3=F by rw[hRL,hF];rfl)
 have RDF:Hid (∀ (g:Nat) (T:TypeId) (wx:World),Blk wx g RL T->Rd wx (some ⟨g,0,none⟩) F):=Lib.hid (fun g T wx h=>by
  have h2:=(Li.Rd.of_blk h).take 3
  rwa [RF.out] at h2)
 have CM:Hid (∀ (M:List At) (w:World),St w0 X (M++L) w->Calls Tryz.prog 151 #[.slice B m c,.agg F.toArray] w fun e w'=>e=.returned (.tuple #[iv t,iv em])/\St w0 X (M++L) w'):=Lib.hid (fun M w hs=>by rw[hF,<-Pd.fv_eq];exact Pd.rMeasure_st hs s.b s.f hm0 (hB.app M) (by omega) (by omega) hm)
 have CD:Hid (∀ (M:List At) (w:World),t<=m->St w0 X (M++L) w->Calls Tryz.prog 152 #[.slice B t c,.agg F.toArray] w fun e w'=>∃ EA ec DA dc PC,e=.returned (.tuple #[.agg PC.toArray,iv (dec (s.b.take t) s.f).2])/\Hid (PC=pc (dec (s.b.take t) s.f).1.h EA (dec (s.b.take t) s.f).1.en.length ec DA (dec (s.b.take t) s.f).1.da.length dc)/\Hid (Reads L EA ((dec (s.b.take t) s.f).1.en.map v8))/\Hid (Reads L DA ((dec (s.b.take t) s.f).1.da.map v8))/\St w0 X (M++L) w'):=Lib.hid (fun M w ht hs=>by
  rw[hF,<-Pd.fv_eq];exact rDecodeK_st M hs (s.b.take t) s.f (by rw[List.length_take];omega) (by rw[List.map_take];exact hB.take t) (by omega) (by omega) rfl)
 have HTE:Hid (takeE s=if m<8 then ({},0,9) else if em≠0 then ({},0,em) else if mo<t then ({},0,5) else if m<t then ({},0,9) else ((dec (s.b.take t) s.f).1,t,(dec (s.b.take t) s.f).2)):=Lib.hid (by unfold takeE;rw[hm,<-hm0,<-hmo])
 obtain⟨D,hD⟩:∃ D,D=dec (s.b.take t) s.f:=⟨_,rfl⟩
 rw[<-hD] at HTE CD
 have hml:m<=4194304:=by omega
 have hcc2:m<=c:=by omega
 rw[hr] at HTE;rw[<-hRL];clear hRL hm0 hmo hF hm hZ hD hr hl
 have HT2:=HTE.out
 clear HTE
 by_cases h8:m<8
 ·rw[if_pos h8] at HT2
  cases HT2
  have a1:decide ((m:Int)<8)=true:=by simp;omega
  clear h8 CM CD
  go_enter Tryz.func115,Tryz.ntmps115
  go_wp2_with (first|((with_reducible refine Se.iL 2 ?_);(refine Se.Al hs rfl (HZ.out) ?_;clear hs;rintro w g2-hs))|((with_reducible refine Se.iL 10 ?_);(refine Se.Ld hs rfl rfl (Cell.blk 1 rfl R4.out) ?_))|((with_reducible refine Se.iL 13 ?_);(refine Se.Bd rfl rfl (BP.out _) ?_))|((with_reducible refine Se.iN ?_);(refine Se.Sow 0 hs rfl rfl rfl rfl (ZO.out) (by rw[ZL.out];kernel_rfl) (by rw[ZL.out]) ?_;clear hs;intro w hs;try simp only[pS] at hs))|((first|with_reducible refine Se.ab hs ?_|with_reducible refine Se.abc hs ?_);clear hs;(first|(generalize w.heap.size=g1;intro w hs))))
  refine Se.ret hs [.agg Z.toArray,iv 0,iv _] rfl ⟨Se.resRow rfl (Reads.blk 0 rfl) (by kernel_rfl) (by rw[ZL.out] <;> kernel_rfl),rfl,rfl,trivial⟩ (by simp) rfl ?_;exact⟨none,0,none,0,Z,rfl,HZE,Lib.hid Reads.nil,Lib.hid Reads.nil,hs.drop.drop⟩
 rw[if_neg h8] at HT2
 have a1:decide ((m:Int)<8)=false:=by simp;omega
 clear h8
 by_cases h0:em=0
 rotate_left
 ·rw[if_pos h0] at HT2
  cases HT2
  have a2:=(int_ne h0).1
  clear h0 CD
  go_enter Tryz.func115,Tryz.ntmps115
  go_upto_region 3 with (first|((with_reducible refine Se.iL 2 ?_);(refine Se.Al hs rfl (HZ.out) ?_;clear hs;rintro w g2-hs))|((with_reducible refine Se.iL 10 ?_);(refine Se.Ld hs rfl rfl (Cell.blk 1 rfl R4.out) ?_))|((first|with_reducible refine Se.ab hs ?_|with_reducible refine Se.abc hs ?_);clear hs;(first|(generalize w.heap.size=g1;intro w hs))))
  have RDR:=Lib.hid (show Reads (.blk g2 65 Z::.blk g1 56 RL::L) (some ⟨g1,0,none⟩) F from fun wx hw=>RDF.out _ _ _ (hw (.blk g1 56 RL) (by simp)))
  go_upto_region 4 with (first|((with_reducible refine Se.iL 16 ?_);(refine Se.Ld hs rfl rfl (Cell.blk 1 rfl R4.out) ?_))|((with_reducible refine Se.iL 18 ?_);(refine Se.Ldw hs rfl rfl (RDR.out) (by rw[FL.out];kernel_rfl) ?_))|(go_at_call 151;refine Calls.mono (CM.out [_,_] _ hs) ?_;clear hs;rintro e w ⟨rfl,hs⟩))
  go_wp2_with (first|((with_reducible refine Se.iL 28 ?_);(refine Se.Ld hs rfl rfl (Cell.blk 1 rfl R3.out) ?_))|((with_reducible refine Se.iL 33 ?_);(refine Se.Ld hs rfl rfl (Cell.blk 1 rfl R4.out) ?_))|((with_reducible refine Se.iL 24 ?_);(refine Se.Bd rfl rfl (BP.out _) ?_))|((with_reducible refine Se.iN ?_);(refine Se.Sow 0 hs rfl rfl rfl rfl (ZO.out) (by rw[ZL.out];kernel_rfl) (by rw[ZL.out]) ?_;clear hs;intro w hs;try simp only[pS] at hs)))
  refine Se.ret hs [.agg Z.toArray,iv 0,iv _] rfl ⟨Se.resRow rfl (Reads.blk 0 rfl) (by kernel_rfl) (by rw[ZL.out] <;> kernel_rfl),rfl,rfl,trivial⟩ (by simp) rfl ?_;exact⟨none,0,none,0,Z,rfl,HZE,Lib.hid Reads.nil,Lib.hid Reads.nil,hs.drop.drop⟩
 subst h0;rw[if_neg (by decide)] at HT2
 by_cases h1:mo<t
 ·rw[if_pos h1] at HT2
  cases HT2
  have a3:decide (mo<t)=true:=by simpa using h1
  have a3':decide ((mo:Int)<(t:Int))=true:=by simpa using h1
  clear h1 CD
  go_enter Tryz.func115,Tryz.ntmps115
  go_upto_region 3 with (first|((with_reducible refine Se.iL 2 ?_);(refine Se.Al hs rfl (HZ.out) ?_;clear hs;rintro w g2-hs))|((with_reducible refine Se.iL 10 ?_);(refine Se.Ld hs rfl rfl (Cell.blk 1 rfl R4.out) ?_))|((first|with_reducible refine Se.ab hs ?_|with_reducible refine Se.abc hs ?_);clear hs;(first|(generalize w.heap.size=g1;intro w hs))))
  have RDR:=Lib.hid (show Reads (.blk g2 65 Z::.blk g1 56 RL::L) (some ⟨g1,0,none⟩) F from fun wx hw=>RDF.out _ _ _ (hw (.blk g1 56 RL) (by simp)))
  go_upto_region 4 with (first|((with_reducible refine Se.iL 16 ?_);(refine Se.Ld hs rfl rfl (Cell.blk 1 rfl R4.out) ?_))|((with_reducible refine Se.iL 18 ?_);(refine Se.Ldw hs rfl rfl (RDR.out) (by rw[FL.out];kernel_rfl) ?_))|(go_at_call 151;refine Calls.mono (CM.out [_,_] _ hs) ?_;clear hs;rintro e w ⟨rfl,hs⟩))
  go_wp2_with (first|((with_reducible refine Se.iL 28 ?_);(refine Se.Ld hs rfl rfl (Cell.blk 1 rfl R3.out) ?_))|((with_reducible refine Se.iL 33 ?_);(refine Se.Ld hs rfl rfl (Cell.blk 1 rfl R4.out) ?_))|((with_reducible refine Se.iL 30 ?_);(refine Se.Bd rfl rfl (BP.out _) ?_))|((with_reducible refine Se.iN ?_);(refine Se.Sow 0 hs rfl rfl rfl rfl (ZO.out) (by rw[ZL.out];kernel_rfl) (by rw[ZL.out]) ?_;clear hs;intro w hs;try simp only[pS] at hs)))
  refine Se.ret hs [.agg Z.toArray,iv 0,iv _] rfl ⟨Se.resRow rfl (Reads.blk 0 rfl) (by kernel_rfl) (by rw[ZL.out] <;> kernel_rfl),rfl,rfl,trivial⟩ (by simp) rfl ?_;exact⟨none,0,none,0,Z,rfl,HZE,Lib.hid Reads.nil,Lib.hid Reads.nil,hs.drop.drop⟩
 rw[if_neg h1] at HT2
 have a3:decide (mo<t)=false:=by simpa using h1
 have a3':decide ((mo:Int)<(t:Int))=false:=by simpa using h1
 clear h1
 by_cases h2:m<t
 ·rw[if_pos h2] at HT2
  cases HT2
  have a4:decide (m<t)=true:=by simpa using h2
  have a4':decide ((m:Int)<(t:Int))=true:=by simpa using h2
  clear h2 CD
  go_enter Tryz.func115,Tryz.ntmps115
  go_upto_region 3 with (first|((with_reducible refine Se.iL 2 ?_);(refine Se.Al hs rfl (HZ.out) ?_;clear hs;rintro w g2-hs))|((with_reducible refine Se.iL 10 ?_);(refine Se.Ld hs rfl rfl (Cell.blk 1 rfl R4.out) ?_))|((first|with_reducible refine Se.ab hs ?_|with_reducible refine Se.abc hs ?_);clear hs;(first|(generalize w.heap.size=g1;intro w hs))))
  have RDR:=Lib.hid (show Reads (.blk g2 65 Z::.blk g1 56 RL::L) (some ⟨g1,0,none⟩) F from fun wx hw=>RDF.out _ _ _ (hw (.blk g1 56 RL) (by simp)))
  go_upto_region 4 with (first|((with_reducible refine Se.iL 16 ?_);(refine Se.Ld hs rfl rfl (Cell.blk 1 rfl R4.out) ?_))|((with_reducible refine Se.iL 18 ?_);(refine Se.Ldw hs rfl rfl (RDR.out) (by rw[FL.out];kernel_rfl) ?_))|(go_at_call 151;refine Calls.mono (CM.out [_,_] _ hs) ?_;clear hs;rintro e w ⟨rfl,hs⟩))
  go_wp2_with (first|((with_reducible refine Se.iL 28 ?_);(refine Se.Ld hs rfl rfl (Cell.blk 1 rfl R3.out) ?_))|((with_reducible refine Se.iL 33 ?_);(refine Se.Ld hs rfl rfl (Cell.blk 1 rfl R4.out) ?_))|((with_reducible refine Se.iL 36 ?_);(refine Se.Bd rfl rfl (BP.out _) ?_))|((with_reducible refine Se.iN ?_);(refine Se.Sow 0 hs rfl rfl rfl rfl (ZO.out) (by rw[ZL.out];kernel_rfl) (by rw[ZL.out]) ?_;clear hs;intro w hs;try simp only[pS] at hs)))
  refine Se.ret hs [.agg Z.toArray,iv 0,iv _] rfl ⟨Se.resRow rfl (Reads.blk 0 rfl) (by kernel_rfl) (by rw[ZL.out] <;> kernel_rfl),rfl,rfl,trivial⟩ (by simp) rfl ?_;exact⟨none,0,none,0,Z,rfl,HZE,Lib.hid Reads.nil,Lib.hid Reads.nil,hs.drop.drop⟩
 rw[if_neg h2] at HT2;simp only[Prod.mk.injEq] at HT2
 obtain⟨hp1,hp2,hp3⟩:=HT2
 replace hp2:=hp2.symm
 subst hp1 hp2 hp3
 have a4:decide (m<t)=false:=by simpa using h2
 have a4':decide ((m:Int)<(t:Int))=false:=by simpa using h2
 have HTM:=Lib.hid (show t<=m by omega)
 have b1:(t:Int)<=(c:Int):=by have:=HTM.out;omega
 have b2:t<=c:=by have:=HTM.out;omega
 clear h2
 go_enter Tryz.func115,Tryz.ntmps115
 go_upto_region 3 with (first|((with_reducible refine Se.iL 2 ?_);(refine Se.Al hs rfl (HZ.out) ?_;clear hs;rintro w g2-hs))|((with_reducible refine Se.iL 10 ?_);(refine Se.Ld hs rfl rfl (Cell.blk 1 rfl R4.out) ?_))|((first|with_reducible refine Se.ab hs ?_|with_reducible refine Se.abc hs ?_);clear hs;(first|(generalize w.heap.size=g1;intro w hs))))
 have RDR:=Lib.hid (show Reads (.blk g2 65 Z::.blk g1 56 RL::L) (some ⟨g1,0,none⟩) F from fun wx hw=>RDF.out _ _ _ (hw (.blk g1 56 RL) (by simp)))
 go_upto_region 4 with (first|((with_reducible refine Se.iL 16 ?_);(refine Se.Ld hs rfl rfl (Cell.blk 1 rfl R4.out) ?_))|((with_reducible refine Se.iL 18 ?_);(refine Se.Ldw hs rfl rfl (RDR.out) (by rw[FL.out];kernel_rfl) ?_))|(go_at_call 151;refine Calls.mono (CM.out [_,_] _ hs) ?_;clear hs;rintro e w ⟨rfl,hs⟩))
 go_upto_region 10 with (first|((with_reducible refine Se.iL 28 ?_);(refine Se.Ld hs rfl rfl (Cell.blk 1 rfl R3.out) ?_))|((with_reducible refine Se.iL 33 ?_);(refine Se.Ld hs rfl rfl (Cell.blk 1 rfl R4.out) ?_)))
 go_cut [7,8] (fun s7 s8 wx=>∃ g7 EA ec DA dc PC,s7=.pointer (some ⟨g7,0,none⟩)/\s8=iv D.2/\Hid (PC=pc D.1.h EA D.1.en.length ec DA D.1.da.length dc)/\Hid (Reads L EA (D.1.en.map v8))/\Hid (Reads L DA (D.1.da.map v8))/\St w0 X ([.blk g7 65 PC,.blk g2 65 Z,.blk g1 56 RL]++L) wx)
 case first =>
  refine Or.region 13 (fun wx=>Blk wx g1 RL 56) (fun|6=>true|10=>true|11=>true|_=>false) (by kernel_rfl) (by decide +kernel) (hs.drew.hold (.blk g1 56 RL) (by simp)) ?_;replace hs:=hs.drew;generalize w.drew=w at hs ⊢;change Or.AW _ _ _ _ _ 13 [0,1,2,3,4,5,6,7,8,9,10,11,12] _ _;refine Or.pA 0 ?_;(try simp only[pU]);change Or.AW _ _ _ _ _ 12 [1,2,3,4,5,6,7,8,9,10,11,12] _ _;refine Or.pE 1 (v:=.slice B m c) (hv:=fun wx hS=>Se.xl rfl rfl (by rw[hS.cell];exact R4.out) (by decide +kernel)) (h:=?_);(try simp only[pU]);change Or.AW _ _ _ _ _ 11 [2,3,4,5,6,7,8,9,10,11,12] _ _;refine Or.pA 2 ?_;(try simp only[pU]);change Or.AW _ _ _ _ _ 10 [3,4,5,6,7,8,9,10,11,12] _ _;refine Or.pA 3 ?_;(try simp only[pU]);change Or.AW _ _ _ _ _ 9 [4,5,6,7,8,9,10,11,12] _ _;refine Or.pA 4 ?_;(try simp only[pU]);change Or.AW _ _ _ _ _ 8 [5,6,7,8,9,10,11,12] _ _;refine Or.pE 5 (v:=.agg F.toArray) (hv:=fun wx hS=>Se.xla rfl rfl (RDF.out _ _ _ hS) (by rw[FL.out] <;> kernel_rfl) (by kernel_rfl)) (h:=?_);(try simp only[pU]);change Or.AW _ _ _ _ _ 7 [6,7,8,9,10,11,12] _ _;refine Or.two 6 10 (by decide +kernel) (by decide +kernel) (by rfl) (by rfl) (by rfl) (by rfl) ?_ ?_
  ·skip
   refine Se.gcall (f:=152) (args:=#[.slice B t c,.agg F.toArray]) ?_ ?_
   ·go_simp
   refine Calls.mono (CD.out [_,_] _ HTM.out hs) ?_;clear hs;rintro e w⟨EA,ec,DA,dc,PC,rfl,HPC,RE,RD,hs⟩;simp only[List.cons_append,List.nil_append] at hs;refine⟨_,rfl,hs.hold (.blk g1 56 RL) (by simp),?_⟩
   have PCL:=Lib.hid (pcl PC HPC.out).1
   have PCO:=Lib.hid (pcl PC HPC.out).2
   (try simp only[pU]);change Or.AW _ _ _ _ _ 6 [7,8,9,10,11,12] _ _;refine Or.pA 7 ?_;(try simp only[pU]);change Or.AW _ _ _ _ _ 5 [8,9,10,11,12] _ _;refine Or.pA 8 ?_;(try simp only[pU]);change Or.AW _ _ _ _ _ 4 [9,10,11,12] _ _;refine Or.pA 9 ?_;(try simp only[pU]);change Or.AW _ _ _ _ _ 3 [10,11,12] _ _;refine Or.one 10 (by decide +kernel) (by decide +kernel) (by rfl) (by rfl) ?_;refine Se.al hs rfl HZ.out ?_;clear hs;rintro w g7-hs;refine⟨hs.hold (.blk g1 56 RL) (by simp),?_⟩;(try simp only[pU]);change Or.AW _ _ _ _ _ 2 [11,12] _ _;refine Or.one 11 (by decide +kernel) (by decide +kernel) (by rfl) (by rfl) ?_;refine Se.sow 0 (vs:=PC) hs rfl rfl rfl rfl PCO.out (by rw[PCL.out] <;> kernel_rfl) (by rw[PCL.out,ZL.out]) ?_;clear hs;intro w hs;simp only[List.cons_append,List.nil_append,List.set_cons_zero,List.set_cons_succ] at hs;refine⟨hs.hold (.blk g1 56 RL) (by simp),?_⟩
   (try simp only[Act.put])
   change Or.AW _ _ _ _ _ 1 [12] _ _;refine Or.pA 12 ?_;(try simp only[pU]);change Or.AW _ _ _ _ _ 0 [] _ _;refine Or.done ?_;simp only[List.drop_succ_cons,List.drop_zero]
   go_wp2_with fail
   go_meet;exact⟨g7,EA,ec,DA,dc,PC,rfl,rfl,HPC,RE,RD,hs⟩
  ·skip
   refine Se.al hs rfl HZ.out ?_;clear hs;rintro w g7-hs;refine⟨hs.hold (.blk g1 56 RL) (by simp),?_⟩;(try simp only[pU]);change Or.AW _ _ _ _ _ 6 [6,7,8,9,11,12] _ _;refine Or.one 6 (by decide +kernel) (by decide +kernel) (by rfl) (by rfl) ?_;refine Se.gcall (f:=152) (args:=#[.slice B t c,.agg F.toArray]) ?_ ?_
   ·go_simp
   refine Calls.mono (CD.out [_,_,_] _ HTM.out hs) ?_;clear hs;rintro e w⟨EA,ec,DA,dc,PC,rfl,HPC,RE,RD,hs⟩;simp only[List.cons_append,List.nil_append] at hs;refine⟨_,rfl,hs.hold (.blk g1 56 RL) (by simp),?_⟩
   have PCL:=Lib.hid (pcl PC HPC.out).1
   have PCO:=Lib.hid (pcl PC HPC.out).2
   (try simp only[pU]);change Or.AW _ _ _ _ _ 5 [7,8,9,11,12] _ _;refine Or.pA 7 ?_;(try simp only[pU]);change Or.AW _ _ _ _ _ 4 [8,9,11,12] _ _;refine Or.pA 8 ?_;(try simp only[pU]);change Or.AW _ _ _ _ _ 3 [9,11,12] _ _;refine Or.pA 9 ?_;(try simp only[pU]);change Or.AW _ _ _ _ _ 2 [11,12] _ _;refine Or.one 11 (by decide +kernel) (by decide +kernel) (by rfl) (by rfl) ?_;refine Se.sow 0 (vs:=PC) hs rfl rfl rfl rfl PCO.out (by rw[PCL.out] <;> kernel_rfl) (by rw[PCL.out,ZL.out]) ?_;clear hs;intro w hs;simp only[List.cons_append,List.nil_append,List.set_cons_zero,List.set_cons_succ] at hs;refine⟨hs.hold (.blk g1 56 RL) (by simp),?_⟩
   (try simp only[Act.put])
   change Or.AW _ _ _ _ _ 1 [12] _ _;refine Or.pA 12 ?_;(try simp only[pU]);change Or.AW _ _ _ _ _ 0 [] _ _;refine Or.done ?_;simp only[List.drop_succ_cons,List.drop_zero]
   go_wp2_with fail
   go_meet;exact⟨g7,EA,ec,DA,dc,PC,rfl,rfl,HPC,RE,RD,hs⟩
 case rest =>
 clear hs
 obtain⟨g7,EA,ec,DA,dc,PC,rfl,rfl,HPC,RE,RD,hs⟩:=hcut
 rename World=>w
 have PCL:=Lib.hid (pcl PC HPC.out).1
 have PCO:=Lib.hid (pcl PC HPC.out).2
 go_wp2_with (first|((with_reducible refine Se.iL 47 ?_);(refine Se.Ldw hs rfl rfl (Reads.blk 0 rfl) (by rw[PCL.out];kernel_rfl) ?_))|((with_reducible refine Se.iN ?_);(refine Se.Sow 1 hs rfl rfl rfl rfl (PCO.out) (by rw[PCL.out];kernel_rfl) (by rw[PCL.out,ZL.out]) ?_;clear hs;intro w hs;try simp only[pS] at hs)))
 refine Se.ret hs [.agg PC.toArray,iv t,iv _] rfl ⟨Se.resRow rfl (Reads.blk 1 rfl) (by kernel_rfl) (by rw[PCL.out] <;> kernel_rfl),rfl,rfl,trivial⟩ (by simp) rfl ?_;exact⟨EA,ec,DA,dc,PC,rfl,HPC,RE,RD,hs.drop.drop.drop⟩
end Sr
end Go.Proofs.YtjnllcnknjlmmaaGreat
namespace Go.Proofs.YtjnllcnknjlmmaaGreat
open Go Go.RowKit
namespace Sr
open Pd (PDU pc iv)
open Se (St At Reads Cell)
open Li (v8 Rd Blk)
variable {w0 w:World} {X:List Nat} {L:List At} {s s':Rc} {g c:Nat} {B:Option Addr} {r:Option Nat}
attribute [local irreducible] Calls
def slA(B:Option Addr)(n c:Nat):Option Addr:=if c=n then B else B.map (·.add n)
theorem rtakeK_st(M:List At)(hs:St w0 X (M++L) w)(hB:Reads L B (s.b.map v8))(hc:s.b.length<=c)(hl:s.b.length<=4194304){p:PDU}{n e:Nat}(hr:takeE s=(p,n,e)) :
  Calls Tryz.prog 115 #[.agg (rcl s B c).toArray] w fun e' w'=>∃ EA ec DA dc PC,e'=.returned (.tuple #[.agg PC.toArray,iv n,iv e])/\Hid (PC=pc p.h EA p.en.length ec DA p.da.length dc)/\Hid (Reads [.rd B (s.b.map v8)] EA (p.en.map v8))/\Hid (Reads [.rd B (s.b.map v8)] DA (p.da.map v8))/\St w0 X (M++L) w':=by
 have h0:St w [] [.rd B (s.b.map v8)] w:=Pd.rd1 ((hB.app M) w hs.hold)
 refine(rtake_st h0 (Reads.rd 0 rfl) hc hl hr).mono ?_;rintro r w' ⟨EA,ec,DA,dc,PC,h1,h2,h3,h4,h5⟩;exact⟨EA,ec,DA,dc,PC,h1,h2,h3,h4,hs.ext h5.below⟩
theorem rnext_st(hs:St w0 X (.rd B (s.b.map v8)::L) w)(hc:s.b.length<=c)(hl:s.b.length<=4194304)(hnb:s.nb+s.b.length<=70368744177664)(hnp:s.np<=70368744177664){p:PDU}{e:Nat}(hr:nextE s=(s',p,e)) :
  Calls Tryz.prog 84 #[.agg (rcl s B c).toArray] w fun e' w'=>∃ RL' B' c' EA ec DA dc PC,e'=.returned (.tuple #[.agg RL'.toArray,.agg PC.toArray,iv e])/\Hid (RL'=rcl s' B' c')/\Hid (s'.b.length<=c')/\Hid (PC=pc p.h EA p.en.length ec DA p.da.length dc)/\Hid (Reads [.rd B (s.b.map v8)] EA (p.en.map v8))/\Hid (Reads [.rd B (s.b.map v8)] DA (p.da.map v8))/\St w0 X (.rd B' (s'.b.map v8)::.rd B (s.b.map v8)::L) w':=by
 obtain⟨RL,hRL⟩:∃ RL,RL=rcl s B c:=⟨_,rfl⟩
 obtain⟨m,hm0⟩:∃ m,m=s.b.length:=⟨_,rfl⟩
 obtain⟨ee,hee⟩:∃ ee,s.e=ee:=⟨_,rfl⟩
 obtain⟨nb,hnb0⟩:∃ m,m=s.nb:=⟨_,rfl⟩
 obtain⟨np,hnp0⟩:∃ m,m=s.np:=⟨_,rfl⟩
 obtain⟨Z,hZ⟩:∃ Z,Z=pc {} none 0 0 none 0 0:=⟨_,rfl⟩
 obtain⟨xs,hxs⟩:∃ xs,xs=s.b.map v8:=⟨_,rfl⟩
 have ZL:=Lib.hid (show Z.length=14 by rw[hZ];rfl)
 have ZO:=Lib.hid (show ∀ v∈Z,v.oneCell'=true by rw[hZ];exact Pd.pc_one _ _ _ _ _ _ _)
 have HZ:Hid ((Tryz.prog.info? 65).bind (fun i=>i.zero.map (·.cells.toList))=some Z):=Lib.hid (by rw[hZ];exact zP0)
 have BP:Hid (∀ w:World,(Instr.build 65 #[]).run Tryz.prog w=.ok (.agg Z.toArray) w):=Lib.hid (by rw[hZ];exact bP0)
 have HZE:=Lib.hid hZ
 have ZRL:=Lib.hid (show(rcl { f:=⟨false,false,0⟩,mo:=0 } none 0).length=8 from rfl)
 have RLen:=Lib.hid (show RL.length=8 by rw[hRL];rfl)
 have RO:=Lib.hid (show ∀ v∈RL,v.oneCell'=true by rw[hRL];exact rcl_one _ _ _)
 have R4:=Lib.hid (show RL[4]? = some (.slice B m c) by rw[hRL,hm0];rfl)
 have R5:=Lib.hid (show RL[5]? = some (iv ee) by rw[hRL,<-hee];rfl)
 have R6:=Lib.hid (show RL[6]? = some (iv nb) by rw[hRL,hnb0];rfl)
 have R6b:=Lib.hid (show ∀ v,(RL.set 4 v)[6]? = some (iv nb) by rw[hRL,hnb0];intro v;rfl)
 have R7:=Lib.hid (show RL[7]? = some (iv np) by rw[hRL,hnp0];rfl)
 have R7b:=Lib.hid (show ∀ v,(RL.set 4 v)[7]? = some (iv np) by rw[hRL,hnp0];intro v;rfl)
 have R7c:=Lib.hid (show ∀ v u,((RL.set 4 v).set 6 u)[7]? = some (iv np) by rw[hRL,hnp0];intro v u;rfl)
 have HRL:=Lib.hid hRL
 have HC:=Lib.hid hc
 have HM:=Lib.hid hm0
 have HXS:=Lib.hid hxs
 have HRE:Hid (∀ (a:Nat),(RL.set 5 (iv a)).set 4 (.slice none 0 0)=rcl { s with e:=a,b:=[] } none 0):=Lib.hid (fun a=>by rw[hRL];rfl)
 rw[<-hxs] at hs ⊢;rw[<-hRL];unfold nextE at hr
 by_cases h0:ee=0
 rotate_left
 ·rw[if_pos (by rw[hee];exact h0),hee] at hr
  cases hr
  have e1:=(int_ne h0).1
  clear hee h0 hl hnb hnp hRL hm0 hnb0 hnp0 hxs hZ hc
  go_enter Tryz.func84,Tryz.ntmps84
  go_upto_region 2 with (first|((with_reducible refine Se.iL 2 ?_);(refine Se.Al hs rfl (zR) ?_;clear hs;rintro w g2-hs))|((with_reducible refine Se.iL 3 ?_);(refine Se.Al hs rfl (HZ.out) ?_;clear hs;rintro w g3-hs))|((with_reducible refine Se.iL 9 ?_);(refine Se.Ld hs rfl rfl (Cell.blk 2 rfl R5.out) ?_))|((first|with_reducible refine Se.ab hs ?_|with_reducible refine Se.abc hs ?_);clear hs;(first|(generalize w.heap.size=g1;intro w hs))))
  refine Ch.region' 7 (fun wx=>Blk wx g1 RL 56) (fun|4=>true|5=>true|_=>false) (by kernel_rfl) (by decide +kernel) (hs.drew.hold (.blk g1 56 RL) (by simp)) ?_;replace hs:=hs.drew;generalize w.drew=w at hs ⊢;change Ch.CW _ _ _ _ _ [0,1,2,3,4,5,6] _ _
  iterate 1 ((first|refine Ch.pA ?_|refine Ch.pE (hv:=fun wx hS=>Se.xR (hr:=(Li.Rd.of_blk hS)) (hi:=(by rw[RLen.out] <;> kernel_rfl))) (h:=?_));(try simp only[pU]))
  refine Ch.pE (v:=.agg Z.toArray) (hv:=fun wx hS=>Pd.xbd rfl (vs:=[]) rfl (BP.out _)) (h:=?_);(try simp only[pU])
  iterate 2 ((first|refine Ch.pA ?_|refine Ch.pE (hv:=fun wx hS=>Se.xL (hc:=(by rw[hS.cell];exact R5.out))) (h:=?_));(try simp only[pU]))
  refine Ch.nA (h:=Se.sow 1 (vs:=RL) hs rfl rfl rfl rfl RO.out (by rw[RLen.out] <;> kernel_rfl) (by rw[RLen.out,ZRL.out]) ?_);clear hs;intro w hs;simp only[List.cons_append,List.nil_append,List.set_cons_zero,List.set_cons_succ] at hs;refine⟨hs.hold (.blk g1 56 RL) (by simp),?_⟩;(try simp only[pU]);refine Ch.nA (h:=Se.sow 0 (vs:=Z) hs rfl rfl rfl rfl ZO.out (by rw[ZL.out] <;> kernel_rfl) (by rw[ZL.out]) ?_);clear hs;intro w hs;simp only[List.cons_append,List.nil_append,List.set_cons_zero,List.set_cons_succ] at hs;refine⟨hs.hold (.blk g1 56 RL) (by simp),?_⟩;(try simp only[pU])
  iterate 1 (refine Ch.pA ?_;(try simp only[pU]))
  refine Ch.done ?_
  try simp only[List.drop_succ_cons,List.drop_zero]
  go_wp2_with fail
  refine Se.ret hs [.agg RL.toArray,.agg Z.toArray,iv _] rfl ⟨Se.resRow rfl (Reads.blk 1 rfl) (by kernel_rfl) (by rw[RLen.out] <;> kernel_rfl),Se.resRow rfl (Reads.blk 0 rfl) (by kernel_rfl) (by rw[ZL.out] <;> kernel_rfl),rfl,trivial⟩ (by simp) rfl ?_;refine⟨RL,B,c,none,0,none,0,Z,rfl,HRL,HC,HZE,Lib.hid Reads.nil,Lib.hid Reads.nil,?_⟩;rw[<-HXS.out];exact hs.drop.drop.drop.dup (by simp)
 subst h0;rw[if_neg (by simpa using hee)] at hr
 obtain⟨⟨p2,n,e2⟩,ht⟩:∃ x,takeE s=x:=⟨_,rfl⟩
 rw[ht] at hr
 have CT:Hid (∀ (M:List At) (w:World),St w0 X (M++.rd B xs::L) w->Calls Tryz.prog 115 #[.agg RL.toArray] w fun e' w'=>∃ EA ec DA dc PC,e'=.returned (.tuple #[.agg PC.toArray,iv n,iv e2])/\Hid (PC=pc p2.h EA p2.en.length ec DA p2.da.length dc)/\Hid (Reads [.rd B xs] EA (p2.en.map v8))/\Hid (Reads [.rd B xs] DA (p2.da.map v8))/\St w0 X (M++.rd B xs::L) w'):=Lib.hid (fun M w hs=>by
  rw[hRL,hxs] at *
  exact rtakeK_st M hs (Reads.rd 0 rfl) hc hl ht)
 have htl:=take_len ht
 have hnm:=Lib.hid (show n<=m by omega)
 have HTN:Hid (e2≠0->p2={}):=Lib.hid (fun h=>take_none ht h)
 have HR:Hid ((e2=9->s'=s/\p={}/\e=9)/\(e2≠9->e2≠0->s'={ s with e:=e2,b:=[] }/\p={}/\e=e2)/\(e2=0->s'=eat s n/\p=p2/\e=0)):=Lib.hid (by
  refine⟨fun h=>?_,fun h h'=>?_,fun h=>?_⟩
  ·subst h;cases hr;exact⟨rfl,rfl,rfl⟩
  ·dsimp only at hr
   rw[if_neg h,if_pos h'] at hr
   cases hr;exact⟨rfl,rfl,rfl⟩
  ·subst h;cases hr;exact⟨rfl,rfl,rfl⟩)
 have w1:IntKind.i64.wrap ((nb:Int)+(n:Int))=((nb+n:Nat):Int):=by rw[IntWalk.i64_in _ (by omega)];omega
 have w2:IntKind.i64.wrap ((np:Int)+1)=((np+1:Nat):Int):=by rw[IntWalk.i64_in _ (by omega)];omega
 have HR2:Hid (∀ B' c',((RL.set 4 (.slice B' (m-n) c')).set 6 (iv (nb+n))).set 7 (.int .i64 ((np:Int)+1))=rcl (eat s n) B' c'):=Lib.hid (fun B' c'=>by rw[hRL,hm0,hnb0,hnp0];simp[rcl,eat])
 have k1:(n:Int)<=(m:Int):=by omega
 have k2:(m:Int)<=(c:Int):=by omega
 have HSUB:Hid (∀ w:World,St w0 X (.rd B xs::L) w->St w0 X (.rd (slA B n c) ((s.b.drop n).map v8)::.rd B xs::L) w):=Lib.hid (fun w hs=>by
  unfold slA
  have h1:=hs.dup (A:=B) (xs:=xs) (by simp)
  refine h1.rdSub ?_ ?_
  ·exact sl_from (n:=s.b.length) (L:=.rd B xs::L) (by rw[hxs];exact Reads.rd 0 rfl) htl (fun h=>by omega) w hs.hold
  ·intro hy
   refine⟨fun hx=>hy ?_,fun a' ha=>?_⟩
   ·rw[hxs] at hx
    have:s.b=[]:=by simpa using hx
    rw[this];simp
   ·split at ha
    ·exact⟨a',ha,rfl⟩
    ·cases hB:B with
     | none=>rw[hB] at ha;cases ha
     | some a =>
      rw[hB] at ha;simp only[Option.map_some,Option.some.injEq] at ha;subst ha;exact⟨a,rfl,by unfold Addr.add;split <;> rfl⟩)
 clear hr ht hee hl hnb hnp hRL hm0 hnb0 hnp0 hxs hZ hc htl
 by_cases h9:e2=9
 ·subst h9
  obtain⟨rfl,rfl,rfl⟩:=HR.out.1 rfl
  clear w1 w2 k1 k2
  go_enter Tryz.func84,Tryz.ntmps84
  go_upto_region 3 with (first|((with_reducible refine Se.iL 2 ?_);(refine Se.Al hs rfl (zR) ?_;clear hs;rintro w g2-hs))|((with_reducible refine Se.iL 3 ?_);(refine Se.Al hs rfl (HZ.out) ?_;clear hs;rintro w g3-hs))|((with_reducible refine Se.iL 9 ?_);(refine Se.Ld hs rfl rfl (Cell.blk 2 rfl R5.out) ?_))|((first|with_reducible refine Se.ab hs ?_|with_reducible refine Se.abc hs ?_);clear hs;(first|(generalize w.heap.size=g1;intro w hs))))
  go_upto_region 4 with (first|((with_reducible refine Se.iL 16 ?_);(refine Se.Ldw hs rfl rfl (Reads.blk 2 rfl) (by rw[RLen.out];kernel_rfl) ?_))|((with_reducible refine Se.iL 5 ?_);(refine Se.Al hs rfl (HZ.out) ?_;clear hs;rintro w g5-hs))|((with_reducible refine Se.iN ?_);(refine Se.Sow 0 hs rfl rfl rfl rfl (by exact(pcl _ HPC.out).2) (by rw[(pcl _ HPC.out).1];kernel_rfl) (by rw[(pcl _ HPC.out).1,ZL.out]) ?_;clear hs;intro w hs;try simp only[pS] at hs))|(go_at_call 115;refine Calls.mono (CT.out [_,_,_] _ hs) ?_;clear hs;rintro e w ⟨EA,ec,DA,dc,PC,rfl,HPC,RE,RD,hs⟩))
  clear RE RD HPC
  go_wp2_with (first|((with_reducible refine Se.iL 23 ?_);(refine Se.Ldw hs rfl rfl (Reads.blk 3 rfl) (by rw[RLen.out];kernel_rfl) ?_))|((with_reducible refine Se.iL 24 ?_);(refine Se.Bd rfl rfl (BP.out _) ?_))|((with_reducible refine Se.isL (o:=⟨none,Op.store 56 _ _,_,_,_,_⟩) ?_);(refine Se.Sow 2 hs rfl rfl rfl rfl (RO.out) (by rw[RLen.out];kernel_rfl) (by rw[RLen.out,ZRL.out]) ?_;clear hs;intro w hs;try simp only[pS] at hs))|((with_reducible refine Se.isL (o:=⟨none,Op.store 65 _ _,_,_,_,_⟩) ?_);(refine Se.Sow 1 hs rfl rfl rfl rfl (ZO.out) (by rw[ZL.out];kernel_rfl) (by rw[ZL.out]) ?_;clear hs;intro w hs;try simp only[pS] at hs)))
  refine Se.ret hs [.agg RL.toArray,.agg Z.toArray,iv _] rfl ⟨Se.resRow rfl (Reads.blk 2 rfl) (by kernel_rfl) (by rw[RLen.out] <;> kernel_rfl),Se.resRow rfl (Reads.blk 1 rfl) (by kernel_rfl) (by rw[ZL.out] <;> kernel_rfl),rfl,trivial⟩ (by simp) rfl ?_;refine⟨RL,B,c,none,0,none,0,Z,rfl,HRL,HC,HZE,Lib.hid Reads.nil,Lib.hid Reads.nil,?_⟩;rw[<-HXS.out];exact hs.drop.drop.drop.drop.dup (by simp)
 by_cases he:e2=0
 rotate_left
 ·obtain⟨rfl,rfl,rfl⟩:=HR.out.2.1 h9 he
  have e1:=(int_ne he).1
  have e9:((e:Int)==9)=false:=by simp;omega
  clear w1 w2 k1 k2 h9 he
  go_enter Tryz.func84,Tryz.ntmps84
  go_upto_region 3 with (first|((with_reducible refine Se.iL 2 ?_);(refine Se.Al hs rfl (zR) ?_;clear hs;rintro w g2-hs))|((with_reducible refine Se.iL 3 ?_);(refine Se.Al hs rfl (HZ.out) ?_;clear hs;rintro w g3-hs))|((with_reducible refine Se.iL 9 ?_);(refine Se.Ld hs rfl rfl (Cell.blk 2 rfl R5.out) ?_))|((first|with_reducible refine Se.ab hs ?_|with_reducible refine Se.abc hs ?_);clear hs;(first|(generalize w.heap.size=g1;intro w hs))))
  go_upto_region 4 with (first|((with_reducible refine Se.iL 16 ?_);(refine Se.Ldw hs rfl rfl (Reads.blk 2 rfl) (by rw[RLen.out];kernel_rfl) ?_))|((with_reducible refine Se.iL 5 ?_);(refine Se.Al hs rfl (HZ.out) ?_;clear hs;rintro w g5-hs))|((with_reducible refine Se.iN ?_);(refine Se.Sow 0 hs rfl rfl rfl rfl (by exact(pcl _ HPC.out).2) (by rw[(pcl _ HPC.out).1];kernel_rfl) (by rw[(pcl _ HPC.out).1,ZL.out]) ?_;clear hs;intro w hs;try simp only[pS] at hs))|(go_at_call 115;refine Calls.mono (CT.out [_,_,_] _ hs) ?_;clear hs;rintro e w ⟨EA,ec,DA,dc,PC,rfl,HPC,RE,RD,hs⟩))
  clear RE RD HPC
  go_upto_region 8 with (first|((with_reducible refine Se.iN ?_);(refine Se.So 3 hs rfl rfl rfl (by(try simp only[List.length_set]);rw[RLen.out];decide) ?_;clear hs;intro w hs;try simp only[pS] at hs)))
  rw[HRE.out] at hs
  obtain⟨RL2,hRL2⟩:∃ RL2,RL2=rcl { s with e:=e,b:=[] } none 0:=⟨_,rfl⟩
  rw[<-hRL2] at hs
  have R2L:=Lib.hid (show RL2.length=8 by rw[hRL2];rfl)
  have R2O:=Lib.hid (show ∀ v∈RL2,v.oneCell'=true by rw[hRL2];exact rcl_one _ _ _)
  have HRL2:=Lib.hid hRL2
  clear hRL2
  go_wp2_with (first|((with_reducible refine Se.iL 31 ?_);(refine Se.Ldw hs rfl rfl (Reads.blk 3 rfl) (by rw[R2L.out];kernel_rfl) ?_))|((with_reducible refine Se.iL 32 ?_);(refine Se.Bd rfl rfl (BP.out _) ?_))|((with_reducible refine Se.isL (o:=⟨none,Op.store 56 _ _,_,_,_,_⟩) ?_);(refine Se.Sow 2 hs rfl rfl rfl rfl (R2O.out) (by rw[R2L.out];kernel_rfl) (by rw[R2L.out,ZRL.out]) ?_;clear hs;intro w hs;try simp only[pS] at hs))|((with_reducible refine Se.isL (o:=⟨none,Op.store 65 _ _,_,_,_,_⟩) ?_);(refine Se.Sow 1 hs rfl rfl rfl rfl (ZO.out) (by rw[ZL.out];kernel_rfl) (by rw[ZL.out]) ?_;clear hs;intro w hs;try simp only[pS] at hs)))
  refine Se.ret hs [.agg RL2.toArray,.agg Z.toArray,iv _] rfl ⟨Se.resRow rfl (Reads.blk 2 rfl) (by kernel_rfl) (by rw[R2L.out] <;> kernel_rfl),Se.resRow rfl (Reads.blk 1 rfl) (by kernel_rfl) (by rw[ZL.out] <;> kernel_rfl),rfl,trivial⟩ (by simp) rfl ?_;refine⟨RL2,none,0,none,0,none,0,Z,rfl,HRL2,Lib.hid (Nat.le_refl _),HZE,Lib.hid Reads.nil,Lib.hid Reads.nil,?_⟩;exact(hs.drop.drop.drop.drop.dup (A:=B) (xs:=xs) (by simp)).rdSub (.inl rfl) (fun h=>absurd rfl h)
 subst he
 obtain⟨rfl,rfl,rfl⟩:=HR.out.2.2 rfl
 clear h9 HTN
 go_enter Tryz.func84,Tryz.ntmps84
 go_upto_region 3 with (first|((with_reducible refine Se.iL 2 ?_);(refine Se.Al hs rfl (zR) ?_;clear hs;rintro w g2-hs))|((with_reducible refine Se.iL 3 ?_);(refine Se.Al hs rfl (HZ.out) ?_;clear hs;rintro w g3-hs))|((with_reducible refine Se.iL 9 ?_);(refine Se.Ld hs rfl rfl (Cell.blk 2 rfl R5.out) ?_))|((first|with_reducible refine Se.ab hs ?_|with_reducible refine Se.abc hs ?_);clear hs;(first|(generalize w.heap.size=g1;intro w hs))))
 go_upto_region 4 with (first|((with_reducible refine Se.iL 16 ?_);(refine Se.Ldw hs rfl rfl (Reads.blk 2 rfl) (by rw[RLen.out];kernel_rfl) ?_))|((with_reducible refine Se.iL 5 ?_);(refine Se.Al hs rfl (HZ.out) ?_;clear hs;rintro w g5-hs))|((with_reducible refine Se.iN ?_);(refine Se.Sow 0 hs rfl rfl rfl rfl (by exact(pcl _ HPC.out).2) (by rw[(pcl _ HPC.out).1];kernel_rfl) (by rw[(pcl _ HPC.out).1,ZL.out]) ?_;clear hs;intro w hs;try simp only[pS] at hs))|(go_at_call 115;refine Calls.mono (CT.out [_,_,_] _ hs) ?_;clear hs;rintro e w ⟨EA,ec,DA,dc,PC,rfl,HPC,RE,RD,hs⟩))
 have PCL:=Lib.hid (pcl PC HPC.out).1
 have PCO:=Lib.hid (pcl PC HPC.out).2
 go_upto_region 9 with (fail)
 go_cut [4] (fun s4 wx=>St w0 X ([.blk g5 65 PC,.blk g3 65 Z,.blk g2 56 (rcl { f:=⟨false,false,0⟩,mo:=0 } none 0),.blk g1 56 (rcl (eat s n) (slA B n c) (c-n))]++.rd B xs::L) wx)
 case first =>
  refine Or.region 16 (fun wx=>wx.cell? ⟨g1,7,none⟩=some (iv np)) (fun|1=>true|5=>true|12=>true|14=>true|_=>false) (by kernel_rfl) (by decide +kernel) ((Cell.blk 3 rfl R7.out) _ hs.drew.hold) ?_;replace hs:=hs.drew;generalize w.drew=w at hs ⊢;change Or.AW _ _ _ _ _ 16 [0,1,2,3,4,5,6,7,8,9,10,11,12,13,14,15] _ _;refine Or.pA 0 ?_;(try simp only[pU]);change Or.AW _ _ _ _ _ 15 [1,2,3,4,5,6,7,8,9,10,11,12,13,14,15] _ _;refine Or.pA 2 ?_;(try simp only[pU]);change Or.AW _ _ _ _ _ 14 [1,3,4,5,6,7,8,9,10,11,12,13,14,15] _ _;refine Or.pA 4 ?_;(try simp only[pU]);change Or.AW _ _ _ _ _ 13 [1,3,5,6,7,8,9,10,11,12,13,14,15] _ _;refine Or.pA 6 ?_;(try simp only[pU]);change Or.AW _ _ _ _ _ 12 [1,3,5,7,8,9,10,11,12,13,14,15] _ _;refine Or.pA 8 ?_;(try simp only[pU]);change Or.AW _ _ _ _ _ 11 [1,3,5,7,9,10,11,12,13,14,15] _ _;refine Or.pE 9 (v:=iv np) (hv:=fun wx hS=>Se.xl rfl rfl hS (by decide +kernel)) (h:=?_);(try simp only[pU]);change Or.AW _ _ _ _ _ 10 [1,3,5,7,10,11,12,13,14,15] _ _;refine Or.pA 10 ?_;(try simp only[pU]);change Or.AW _ _ _ _ _ 9 [1,3,5,7,11,12,13,14,15] _ _;refine Or.two 1 5 (by decide +kernel) (by decide +kernel) (by rfl) (by rfl) (by rfl) (by rfl) ?_ ?_
  ·skip
   refine Se.ld hs rfl rfl (Cell.blk 3 rfl R4.out) (by kernel_rfl) ?_;refine⟨(Cell.blk 3 rfl R7.out) _ hs.hold,?_⟩;(try simp only[pU]);change Or.AW _ _ _ _ _ 8 [3,5,7,11,12,13,14,15] _ _;refine Or.pE 3 (v:=.slice (slA B n c) (m-n) (c-n)) (hv:=fun wx hS=>(by unfold slA;go_simp)) (h:=?_);(try simp only[pU]);change Or.AW _ _ _ _ _ 7 [5,7,11,12,13,14,15] _ _;refine Or.one 5 (by decide +kernel) (by decide +kernel) (by rfl) (by rfl) ?_;refine Se.ld hs rfl rfl (Cell.blk 3 rfl R6.out) (by kernel_rfl) ?_;refine⟨(Cell.blk 3 rfl R7.out) _ hs.hold,?_⟩;(try simp only[pU]);change Or.AW _ _ _ _ _ 6 [7,11,12,13,14,15] _ _;refine Or.pA 7 ?_;(try simp only[pU]);change Or.AW _ _ _ _ _ 5 [11,12,13,14,15] _ _;refine Or.pA 11 ?_;(try simp only[pU]);change Or.AW _ _ _ _ _ 4 [12,13,14,15] _ _;refine Or.one 12 (by decide +kernel) (by decide +kernel) (by rfl) (by rfl) ?_;refine Se.so 3 (v:=.slice (slA B n c) (m-n) (c-n)) hs rfl rfl rfl rfl rfl (by kernel_rfl) (by rw[RLen.out];decide) ?_;clear hs;intro w hs;simp only[List.cons_append,List.nil_append,List.set_cons_zero,List.set_cons_succ] at hs;refine⟨(Cell.blk 3 rfl (R7b.out _)) _ hs.hold,?_⟩
   (try simp only[Act.put])
   change Or.AW _ _ _ _ _ 3 [13,14,15] _ _;refine Or.pA 13 ?_;(try simp only[pU]);change Or.AW _ _ _ _ _ 2 [14,15] _ _;refine Or.one 14 (by decide +kernel) (by decide +kernel) (by rfl) (by rfl) ?_;refine Se.so 3 (v:=iv (nb+n)) hs rfl rfl rfl rfl rfl (by kernel_rfl) (by(try simp only[List.length_set]);rw[RLen.out];decide) ?_;clear hs;intro w hs;simp only[List.cons_append,List.nil_append,List.set_cons_zero,List.set_cons_succ] at hs;refine⟨(Cell.blk 3 rfl (R7c.out _ _)) _ hs.hold,?_⟩
   (try simp only[Act.put])
   change Or.AW _ _ _ _ _ 1 [15] _ _;refine Or.pA 15 ?_;(try simp only[pU]);change Or.AW _ _ _ _ _ 0 [] _ _;refine Or.done ?_;simp only[List.drop_succ_cons,List.drop_zero]
   go_wp2_with (first|((with_reducible refine Se.isL (o:=⟨none,Op.store 3 _ _,_,_,_,_⟩) ?_);(refine Se.So 3 hs rfl rfl rfl (by(try simp only[List.length_set]);rw[RLen.out];decide) ?_;clear hs;intro w hs;try simp only[pS] at hs)))
   rw[HR2.out] at hs;go_meet;exact hs
  ·skip
   refine Se.ld hs rfl rfl (Cell.blk 3 rfl R6.out) (by kernel_rfl) ?_;refine⟨(Cell.blk 3 rfl R7.out) _ hs.hold,?_⟩;(try simp only[pU]);change Or.AW _ _ _ _ _ 8 [1,3,7,11,12,13,14,15] _ _;refine Or.pA 7 ?_;(try simp only[pU]);change Or.AW _ _ _ _ _ 7 [1,3,11,12,13,14,15] _ _;refine Or.one 1 (by decide +kernel) (by decide +kernel) (by rfl) (by rfl) ?_;refine Se.ld hs rfl rfl (Cell.blk 3 rfl R4.out) (by kernel_rfl) ?_;refine⟨(Cell.blk 3 rfl R7.out) _ hs.hold,?_⟩;(try simp only[pU]);change Or.AW _ _ _ _ _ 6 [3,11,12,13,14,15] _ _;refine Or.pE 3 (v:=.slice (slA B n c) (m-n) (c-n)) (hv:=fun wx hS=>(by unfold slA;go_simp)) (h:=?_);(try simp only[pU]);change Or.AW _ _ _ _ _ 5 [11,12,13,14,15] _ _;refine Or.pA 11 ?_;(try simp only[pU]);change Or.AW _ _ _ _ _ 4 [12,13,14,15] _ _;refine Or.one 12 (by decide +kernel) (by decide +kernel) (by rfl) (by rfl) ?_;refine Se.so 3 (v:=.slice (slA B n c) (m-n) (c-n)) hs rfl rfl rfl rfl rfl (by kernel_rfl) (by rw[RLen.out];decide) ?_;clear hs;intro w hs;simp only[List.cons_append,List.nil_append,List.set_cons_zero,List.set_cons_succ] at hs;refine⟨(Cell.blk 3 rfl (R7b.out _)) _ hs.hold,?_⟩
   (try simp only[Act.put])
   change Or.AW _ _ _ _ _ 3 [13,14,15] _ _;refine Or.pA 13 ?_;(try simp only[pU]);change Or.AW _ _ _ _ _ 2 [14,15] _ _;refine Or.one 14 (by decide +kernel) (by decide +kernel) (by rfl) (by rfl) ?_;refine Se.so 3 (v:=iv (nb+n)) hs rfl rfl rfl rfl rfl (by kernel_rfl) (by(try simp only[List.length_set]);rw[RLen.out];decide) ?_;clear hs;intro w hs;simp only[List.cons_append,List.nil_append,List.set_cons_zero,List.set_cons_succ] at hs;refine⟨(Cell.blk 3 rfl (R7c.out _ _)) _ hs.hold,?_⟩
   (try simp only[Act.put])
   change Or.AW _ _ _ _ _ 1 [15] _ _;refine Or.pA 15 ?_;(try simp only[pU]);change Or.AW _ _ _ _ _ 0 [] _ _;refine Or.done ?_;simp only[List.drop_succ_cons,List.drop_zero]
   go_wp2_with (first|((with_reducible refine Se.isL (o:=⟨none,Op.store 3 _ _,_,_,_,_⟩) ?_);(refine Se.So 3 hs rfl rfl rfl (by(try simp only[List.length_set]);rw[RLen.out];decide) ?_;clear hs;intro w hs;try simp only[pS] at hs)))
   rw[HR2.out] at hs;go_meet;exact hs
 case rest =>
 clear hs
 rename World=>w
 have hs:=hcut
 clear hcut;simp only[List.cons_append,List.nil_append] at hs
 obtain⟨A2,hA2⟩:∃ A2,A2=slA B n c:=⟨_,rfl⟩
 rw[<-hA2] at hs
 obtain⟨RL2,hRL2⟩:∃ RL2,RL2=rcl (eat s n) A2 (c-n):=⟨_,rfl⟩
 rw[<-hRL2] at hs
 have R2L:=Lib.hid (show RL2.length=8 by rw[hRL2];rfl)
 have R2O:=Lib.hid (show ∀ v∈RL2,v.oneCell'=true by rw[hRL2];exact rcl_one _ _ _)
 have HRL2:=Lib.hid hRL2
 have HA2:=Lib.hid hA2
 clear hRL2 hA2 w1 w2
 go_upto_region 10 with (fail)
 refine Ch.region' 5 (fun wx=>Blk wx g1 RL2 56/\Blk wx g5 PC 65) (fun|2=>true|3=>true|_=>false) (by kernel_rfl) (by decide +kernel) (⟨hs.drew.hold (.blk g1 56 RL2) (by simp),hs.drew.hold (.blk g5 65 PC) (by simp)⟩) ?_;replace hs:=hs.drew;generalize w.drew=w at hs ⊢;change Ch.CW _ _ _ _ _ [0,1,2,3,4] _ _
 iterate 2 ((first|refine Ch.pA ?_|refine Ch.pE (hv:=fun wx hS=>Se.xR (hr:=(Li.Rd.of_blk hS.1)) (hi:=(by rw[R2L.out] <;> kernel_rfl))) (h:=?_)|refine Ch.pE (hv:=fun wx hS=>Se.xR (hr:=(Li.Rd.of_blk hS.2)) (hi:=(by rw[PCL.out] <;> kernel_rfl))) (h:=?_));(try simp only[pU]))
 refine Ch.nA (h:=Se.sow 2 (vs:=RL2) hs rfl rfl rfl rfl R2O.out (by rw[R2L.out] <;> kernel_rfl) (by rw[R2L.out,ZRL.out]) ?_);clear hs;intro w hs;simp only[List.cons_append,List.nil_append,List.set_cons_zero,List.set_cons_succ] at hs;refine⟨⟨hs.hold (.blk g1 56 RL2) (by simp),hs.hold (.blk g5 65 PC) (by simp)⟩,?_⟩;(try simp only[pU]);refine Ch.nA (h:=Se.sow 1 (vs:=PC) hs rfl rfl rfl rfl PCO.out (by rw[PCL.out] <;> kernel_rfl) (by rw[PCL.out,ZL.out]) ?_);clear hs;intro w hs;simp only[List.cons_append,List.nil_append,List.set_cons_zero,List.set_cons_succ] at hs;refine⟨⟨hs.hold (.blk g1 56 RL2) (by simp),hs.hold (.blk g5 65 PC) (by simp)⟩,?_⟩;(try simp only[pU])
 iterate 1 (refine Ch.pA ?_;(try simp only[pU]))
 refine Ch.done ?_
 try simp only[List.drop_succ_cons,List.drop_zero]
 go_wp2_with fail
 refine Se.ret hs [.agg RL2.toArray,.agg PC.toArray,iv _] rfl ⟨Se.resRow rfl (Reads.blk 2 rfl) (by kernel_rfl) (by rw[R2L.out] <;> kernel_rfl),Se.resRow rfl (Reads.blk 1 rfl) (by kernel_rfl) (by rw[PCL.out] <;> kernel_rfl),rfl,trivial⟩ (by simp) rfl ?_;refine⟨RL2,A2,c-n,EA,ec,DA,dc,PC,rfl,HRL2,Lib.hid ?_,HPC,RE,RD,?_⟩
 ·have h1:=HM.out
  have h2:=HC.out
  have h3:=hnm.out
  show(s.b.drop n).length<=c-n
  rw[List.length_drop];omega
 ·have h1:=HSUB.out _ hs.drop.drop.drop.drop
  rw[<-HA2.out] at h1;exact h1
end Sr
end Go.Proofs.YtjnllcnknjlmmaaGreat
namespace Go.Proofs.YtjnllcnknjlmmaaGreat
open Go Go.RowKit
namespace Sn
open Sr (nextE addE)
structure Kept (s t:Ss):Prop where
 i:Inv t
 out:t.out.length<=s.out.length+2097152*(s.r.b.length+1)
 nb:t.r.nb+t.r.b.length<=s.r.nb+s.r.b.length
 np:t.r.np+t.r.b.length<=s.r.np+s.r.b.length
theorem ar1{o' o b K:Nat}(h:o'<=o+K):o'<=o+K*(b+1):=Nat.le_trans h (Nat.add_le_add_left (Nat.le_mul_of_pos_right K (Nat.succ_pos b)) o)
theorem ar2{o2 o1 o b' b K:Nat}(h1:o1<=o+K)(h2:o2<=o1+K*(b'+1))(h3:b'+1<=b):o2<=o+K*(b+1):=by
 have h4:K*(b'+1)<=K*b:=Nat.mul_le_mul_left K h3
 have h5:K*(b+1)=K*b+K:=Nat.mul_succ K b
 omega
theorem feed_kept:∀ (n:Nat) (s:Ss),Inv s->Kept s (feedN n s)
 | 0,s,h=>⟨h,Nat.le_add_right _ _,Nat.le_refl _,Nat.le_refl _⟩
 | n+1,s,h=>by
  obtain⟨r',p,e,hn⟩:∃ r' p e,nextE s.r=(r',p,e):=⟨_,_,_,rfl⟩
  have he:=next_err hn
  have hi:Inv { s with r:=r' }:=inv_r h (by have:=h.b;omega) (by rw[he.2.1];exact h.mo)
  unfold feedN;rw[hn]
  by_cases h3:s.st=3
  ·rw[if_pos h3]
   exact⟨h,Nat.le_add_right _ _,Nat.le_refl _,Nat.le_refl _⟩
  rw[if_neg h3];simp only
  by_cases h9:e=9
  ·rw[if_pos h9]
   exact⟨hi,Nat.le_add_right _ _,he.2.2.1,he.2.2.2⟩
  rw[if_neg h9]
  by_cases h0:e≠0
  ·rw[if_pos h0,feedN_end rfl]
   have h1:=step_end hi (whyE e)
   refine⟨h1.i,ar1 h1.out,?_,?_⟩
   ·rw[h1.nb,h1.b];exact he.2.2.1
   ·rw[h1.np,h1.b];exact he.2.2.2
  rw[if_neg h0]
  obtain rfl:e=0:=by omega
  have hk:=next_ok hn
  have h1:=step_handle hi p
  have ih:=feed_kept n _ h1.i
  refine⟨ih.i,ar2 h1.out ih.out ?_,Nat.le_trans ih.nb ?_,Nat.le_trans ih.np ?_⟩
  ·rw[h1.b];exact hk.b
  ·rw[h1.nb,h1.b];exact Nat.le_of_eq hk.nb
  ·rw[h1.np,h1.b]
   show r'.np+r'.b.length<=s.r.np+s.r.b.length
   have h4:=hk.np
   have h5:=hk.b
   clear ih h1 hk hi hn he h;omega
structure KeptF (s t:Ss) (n:Nat):Prop where
 i:Inv t
 out:t.out.length<=s.out.length+2097152*(s.r.b.length+n+1)
 nb:t.r.nb+t.r.b.length<=s.r.nb+s.r.b.length+n
 np:t.r.np+t.r.b.length<=s.r.np+s.r.b.length+n
theorem feedE_kept{s:Ss}(h:Inv s)(x:Bs):KeptF s (feedE s x).1 x.length:=by
 unfold feedE
 by_cases h3:s.st=3
 ·rw[if_pos h3]
  exact⟨h,Nat.le_add_right _ _,Nat.le_add_right _ _,Nat.le_add_right _ _⟩
 rw[if_neg h3]
 obtain⟨r',e,ha⟩:∃ r' e,addE s.r x=(r',e):=⟨_,_,rfl⟩
 obtain⟨b1,b2,b3,b4,b5⟩:=add_b ha
 rw[ha];simp only
 by_cases h0:e≠0
 ·rw[if_pos h0]
  exact⟨h,Nat.le_add_right _ _,Nat.le_add_right _ _,Nat.le_add_right _ _⟩
 rw[if_neg h0]
 obtain⟨c1,c2⟩:=b1 (by omega)
 have hi:Inv { s with r:=r',rd:=[] }:=⟨h.c,by show r'.mo≠0;rw[b3];exact h.mo,c2,h.t,h.n,h.nd⟩
 have hk:=feed_kept (r'.b.length+2) _ hi
 have e1:r'.b.length=s.r.b.length+x.length:=by rw[c1,List.length_append]
 refine⟨⟨hk.i.c,hk.i.mo,hk.i.b,hk.i.t,hk.i.n,hk.i.nd⟩,?_,Nat.le_trans hk.nb ?_,Nat.le_trans hk.np ?_⟩
 ·refine Nat.le_trans hk.out (Nat.le_of_eq ?_)
  show s.out.length+2097152*(r'.b.length+1)=_
  rw[e1]
 ·show r'.nb+r'.b.length<=_
  rw[b4,e1];exact Nat.le_of_eq (Nat.add_assoc _ _ _).symm
 ·show r'.np+r'.b.length<=_
  rw[b5,e1];exact Nat.le_of_eq (Nat.add_assoc _ _ _).symm
end Sn
end Go.Proofs.YtjnllcnknjlmmaaGreat
