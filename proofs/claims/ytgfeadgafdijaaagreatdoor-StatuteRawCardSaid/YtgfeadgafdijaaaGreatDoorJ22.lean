/- A part of the proof: Gb Y4 Yu. -/
import Derived.Deep.Cut
import Derived.Deep.CutRange
import Derived.Test.YtgfeadgafdijaaaGreatDoorJ01
import Derived.Test.YtgfeadgafdijaaaGreatDoorJ16
import Derived.Test.YtgfeadgafdijaaaGreatDoorJ17
import Derived.Test.YtgfeadgafdijaaaGreatDoorJ21
set_option linter.unusedVariables false
set_option linter.unusedSimpArgs false
set_option maxRecDepth 100000
set_option maxHeartbeats 40000000
namespace Go.Proofs.YtgfeadgafdijaaaGreatDoor
open Go.RowKit
def S (st:List (List UInt8)):List Value:=st.map fun l=>.string ⟨l.toArray⟩
theorem Gh (st:List (List UInt8)):(S st).length=st.length:=by simp[S]
theorem ac8 (st:List (List UInt8)) (n:Nat):(S st).take n=S (st.take n):=by simp[S,List.map_take]
theorem ac9 (st:List (List UInt8)) (l:List UInt8):S st++[.string ⟨l.toArray⟩]=S (st++[l]):=by simp[S]
theorem Y5:(Tryz.prog.info? 9).map (fun i=>(i.zero,i.size,i.bytes))=some (some (.string ⟨#[]⟩),1,16):=by kernel_rfl
theorem ba_eq {v:ByteArray} {l:List UInt8} (h:v.data.toList=l):v=⟨l.toArray⟩:=by subst h;obtain⟨⟨x⟩⟩:=v;rfl
theorem mO (x y:ByteArray):(x++y).data.toList=x.data.toList++y.data.toList:=by rw[ByteArray.data_append,Array.toList_append]
theorem kH (v:ByteArray):v.size=v.data.toList.length:=by simp
theorem KQ {α:Type} (st:List α) (o:Nat):(st.reverse.take o).reverse=st.drop (st.length-o)∧st.reverse.drop o=(st.take (st.length-o)).reverse:=by
 constructor
 ·rw[List.take_reverse,List.reverse_reverse]
 ·rw[List.drop_reverse]
def meas (st:List (List UInt8)):Nat:=(st.map List.length).sum+2*st.length
theorem wR (st:List (List UInt8)) (r:Nat):meas st=meas (st.take r)+meas (st.drop r):=by
 unfold meas
 conv=>lhs;rw[←List.take_append_drop r st]
 rw[List.map_append,List.sum_append,List.length_append];omega
theorem KR (st:List (List UInt8)) (l:List UInt8):meas (st++[l])=meas st+l.length+2:=by
 unfold meas;rw[List.map_append,List.sum_append,List.length_append];simp;omega
theorem Oa {n:Nd} (h:bP n=0):n.name.size≤20:=by
 rcases uS n with h'|h'|h'|h'|h'|h'|h'
 ·rw[h] at h';exact absurd h'.2 (by decide)
 ·rw[h] at h';exact absurd h'.2.2 (by decide)
 ·rw[h] at h';exact absurd h'.2.2.2 (by decide)
 ·rw[h] at h';exact absurd h'.2.2.2.2.2 (by decide)
 ·have:=(uo _).1 h'.2.2.2.2.1;rw[this];show 0≤20;omega
 ·rw[h] at h';exact absurd h'.2.2.2.2.2 (by decide)
 ·have:=h'.2.2.2.2.1;unfold nameB at this;simp only[Bool.and_eq_true,decide_eq_true_eq] at this;have:=this.1.2;rw[kH];exact this
theorem Y6 {n:Nd} (h:bP n=0) (J:List (List UInt8)):
  ((n.op=4∧n.num=aW 0∧(aC n.op).ops=0∧n.num≠aW 1∧txt n J=[110,111])∨(n.op=4∧n.num=aW 1∧(aC n.op).ops=0∧txt n J=[121,101,115]))∨
  (n.op≠4∧n.op=2∧(aC n.op).lit=true∧(aC n.op).dS=false∧(aC n.op).ops=0∧txt n J=(aC n.op).word++n.name.data.toList++(aZ n.num).data.toList++[100])∨
  (n.op≠4∧n.op≠2∧(aC n.op).lit=true∧(aC n.op).dS=false∧(aC n.op).ops=0∧txt n J=(aC n.op).word++n.name.data.toList++(aZ n.num).data.toList)∨
  (n.op≠4∧n.op≠2∧(aC n.op).lit=false∧(aC n.op).dS=true∧0<(aC n.op).ops∧txt n J=(aC n.op).word++n.name.data.toList++([91]++(aZ n.num).data.toList++[93])++([40]++gQ J++[41]))∨
  (n.op≠4∧n.op≠2∧(aC n.op).lit=false∧(aC n.op).dS=false∧(aC n.op).ops=0∧txt n J=(aC n.op).word++n.name.data.toList)∨
  (n.op≠4∧n.op≠2∧(aC n.op).lit=false∧(aC n.op).dS=false∧0<(aC n.op).ops∧txt n J=(aC n.op).word++n.name.data.toList++([40]++gQ J++[41])):=by
 have hl:=zY n.op;have hs:=EM n.op;have ho:=JB n.op;by_cases h4:n.op=4
 ·left
  have h0:(aC n.op).ops=0:=by rw[h4];rfl
  have hnum:iW n=true:=by
   rcases uS n with h'|h'|h'|h'|h'|h'|h'
   ·omega
   ·omega
   ·rw[h] at h';exact absurd h'.2.2.2 (by decide)
   ·exact h'.2.2.1
   ·exact h'.2.2.1
   ·exact h'.2.2.1
   ·exact h'.2.2.1
  unfold iW at hnum;rw[if_pos h4,Bool.or_eq_true,decide_eq_true_eq,decide_eq_true_eq] at hnum;rcases hnum with hz|hz
  ·left
   refine⟨h4,hz,h0,by rw[hz];decide,?_⟩;unfold txt;rw[if_pos h4,hz,if_pos (show (aW 0).num=⟨#[]⟩ from rfl)]
  ·right
   refine⟨h4,hz,h0,?_⟩;unfold txt;rw[if_pos h4,hz,if_neg (show ¬(aW 1).num=⟨#[]⟩ from by decide)]
 ·right
  have ht:txt n J=(aC n.op).word++n.name.data.toList++(if (aC n.op).lit then (aZ n.num).data.toList else [])++(if n.op=2 then [100] else [])
   ++(if (aC n.op).dS then [91]++(aZ n.num).data.toList++[93] else [])++(if (aC n.op).ops=0 then [] else [40]++gQ J++[41]):=by unfold txt;rw[if_neg h4]
  by_cases h2:n.op=2
  ·left
   have e1:(aC n.op).lit=true:=by rw[hl];exact decide_eq_true (by omega)
   have e2:(aC n.op).dS=false:=by rw[hs];exact decide_eq_false (by omega)
   have e3:(aC n.op).ops=0:=by rw[h2];rfl
   exact⟨h4,h2,e1,e2,e3,by rw[ht,e1,e2,e3,if_pos h2];simp⟩
  ·right
   by_cases h3:1≤n.op∧n.op≤4
   ·left
    have e1:(aC n.op).lit=true:=by rw[hl];exact decide_eq_true h3
    have e2:(aC n.op).dS=false:=by rw[hs];exact decide_eq_false (by omega)
    have e3:(aC n.op).ops=0:=by
     rw[if_neg (by omega),if_neg (by omega),if_neg (by omega)] at ho;omega
    exact⟨h4,h2,e1,e2,e3,by rw[ht,e1,e2,e3,if_neg h2];simp⟩
   ·right
    have e1:(aC n.op).lit=false:=by rw[hl];exact decide_eq_false h3
    by_cases h5:21≤n.op∧n.op≤23
    ·left
     have e2:(aC n.op).dS=true:=by rw[hs];exact decide_eq_true h5
     have e3:0<(aC n.op).ops:=by
      rw[if_neg (by omega),if_neg (by omega),if_pos (by omega)] at ho;omega
     exact⟨h4,h2,e1,e2,e3,by rw[ht,e1,e2,if_neg h2,if_neg (show ¬(aC n.op).ops=0 from by omega)];simp⟩
    ·right
     have e2:(aC n.op).dS=false:=by rw[hs];exact decide_eq_false h5
     by_cases h6:(aC n.op).ops=0
     ·exact .inl ⟨h4,h2,e1,e2,h6,by rw[ht,e1,e2,h6,if_neg h2];simp⟩
     ·exact .inr ⟨h4,h2,e1,e2,by omega,by rw[ht,e1,e2,if_neg h2,if_neg h6];simp⟩
def pV (es:List Nd) (w:World) (e:Ending) (w':World):Prop:=
 e=.returned (.tuple #[.string ⟨(if bC es=0 then textE es else []).toArray⟩,.int .i64 (bC es)])∧Below w.heap.size w w'
theorem WJ (es:List Nd) (A1:Option Addr) (l1 c1:Nat) (w:World) (h1:Es w es A1 l1 c1) (hf1:∀n∈es,Fine n):
  Calls Tryz.prog 122 #[.slice A1 l1 c1] w (pV es w):=by
 have HC:=zH (AV es A1 l1 c1 w h1.len h1.cap h1.max h1.rd hf1);have H1:=zH h1;have HF:=zH hf1;by_cases hz:bC es=0
 ·have hk:=((pU es).1 hz).1;rw[←h1.len] at hk
  have hch:chk es 0=0:=by
   have:=hz;unfold bC at this;rwa[if_neg (by have:=h1.len;omega)] at this
  have wE:=zH hch;have iH:Hid (∀w',Below w.heap.size w w'→pV es w (.returned (.tuple #[.string ⟨(textE es).toArray⟩,.int .i64 0])) w'):=fun w' hb=>⟨by rw[if_pos hz,hz],hb⟩
  rw[hz] at HC;clear hz h1 hf1 hch;go_enter Tryz.func122,Tryz.ntmps122;go_wp2_with fail;refine HC.out.mono ?_;rintro e w1 ⟨rfl,hb1⟩;go_wp2
  go_loopg [5,6] l1 (fun g sv iv wr=>∃(k:Nat) (st:List (List UInt8)) (A:Option Addr) (cp:Nat),k+g=l1∧iv=.int .i64 k∧sv=.slice A st.length cp∧st.length≤k∧
   Hid (wr.ownsRow w.heap.size 9 1 (.slice A st.length cp) st.length (S st))∧Hid (runT (es.take k) []=st.reverse)∧Hid (chk (es.drop k) st.length=0)∧Hid (∀s∈st,s≠[])∧Hid (meas st≤7000002*k)∧Below w.heap.size w wr)
  case atStart=>
   exact⟨0,[],none,0,by omega,rfl,rfl,by simp,World.ownsRow_nil _ _ _ _,rfl,wE.out,fun s h=>(by cases h),Nat.zero_le _,hb1⟩
  case round=>
   obtain⟨k,st,A,cp,hk',rfl,rfl,YW,hos,hrt,hck,hne,hme,hbr⟩:=hrel;clear hb1;by_cases hlt:k<l1
   ·have hke:k<es.length:=by rw[←H1.out.len];exact hlt
    obtain⟨b,off,hA,hb,hc0,hc1,hc2,hc3,hc4⟩:=(H1.out.rd.below hbr).nd hke;subst hA;have hcons:=List.drop_eq_getElem_cons hke;have xX:=hck.out;rw[hcons] at xX;obtain⟨hw0,hops,xY⟩:=AX xX;have hfin:=HF.out _ (List.getElem_mem hke)
    have TW:runT (es.take (k+1)) []=txt es[k] ((st.reverse.take (aC es[k].op).ops).reverse)::st.reverse.drop (aC es[k].op).ops:=by
     rw[List.take_succ_eq_append_getElem hke,zo,hrt.out];rfl
    generalize es[k]=nn at*;rw[(KQ st _).1,(KQ st _).2] at TW;obtain⟨bG,AY⟩:=zF (st.length-(aC nn.op).ops);rw[AY] at TW xY;have F8:bG+(aC nn.op).ops=st.length:=by omega
    have TQ:(st.length:Int)-((aC nn.op).ops:Int)=(bG:Int):=by omega
    have hrest:IntKind.i64.wrap ((st.length:Int)-((aC nn.op).ops:Int))=(bG:Int):=by rw[IntWalk.i64_in _ (by omega)];omega
    have hJ:lN (st.drop bG)=gQ (st.drop bG):=N9 _ (fun s hs=>hne.out s (List.mem_of_mem_drop hs));have mD:=Y6 hw0 (st.drop bG);have htl:=Q7 hw0 hfin (st.drop bG);have htn:=ac7 hw0 (st.drop bG);have hnl:=Oa hw0;have hwl:=yg nn.op;have hts:=gq nn.num hfin.1 hfin.2;have hmd:meas (st.drop bG)+meas (st.take bG)≤7000002*k:=by have:=wR st bG;have:=hme.out;omega
    have hml:(txt nn (st.drop bG)).length+2+meas (st.take bG)≤7000002*(k+1):=by
     have:((st.drop bG).map List.length).sum+2*(st.drop bG).length=meas (st.drop bG):=rfl;omega
    have hjl:(gQ (st.drop bG)).length≤500000000:=by
     have h1:=DI (st.drop bG);have:((st.drop bG).map List.length).sum+2*(st.drop bG).length=meas (st.drop bG):=rfl;omega
    have IC:Hid (∀j,(lN ((st.drop bG).take j)).length≤420000120):=fun j=>by
     rw[N9 _ (fun s hs=>hne.out s (List.mem_of_mem_drop (List.mem_of_mem_take hs)))];have h1:=DI ((st.drop bG).take j);have h2:(((st.drop bG).take j).map List.length).sum+2*((st.drop bG).take j).length=meas ((st.drop bG).take j):=rfl;have h3:=wR (st.drop bG) j;omega
    have HXB:Hid (∀i (h:i<st.length),(st[i]).length≤420000120):=fun i h=>by
     have h1:=wR st i;have h2:=wR (st.drop i) 1;have h3:(st.drop i).take 1=[]++[st[i]]:=by rw[List.drop_eq_getElem_cons h];rfl
     rw[h3,KR] at h2;have:=hme.out;omega
    have Du:=zH (fun W=>AU nn.op W);have HWD:=zH (fun W=>TN nn.op W);have DJ:=zH (fun W=>Dq nn.op W);have HST:=zH (fun W=>Dp nn.op W);have lQ:=zH (fun W=>rG nn.num W hfin.1 hfin.2);have ji:=zH (fun W=>nO nn.num (aW 1) W);generalize aZ nn.num=tx at*;generalize txt nn (st.drop bG)=tt at*;generalize (aC nn.op).word=wd at*;generalize (aC nn.op).lit=li at*;generalize (aC nn.op).dS=sp at*;generalize (aC nn.op).ops=o at*;obtain⟨op,⟨neg,num,den⟩,nm⟩:=nn;unfold Ra.v at lQ ji;simp only at hc0 hc1 hc2 hc3 hc4 mD hnl Du HWD DJ HST lQ ji;have agw:=zH TW;have rH:=zH xY;have HJ:=zH hJ;have aeK:=zH mD;have zS:=zH htn;have HML:=zH hml;have HJL:=zH hjl;have ai3:bG+o≤st.length:=by omega
    have ai4:st.length≤bG+o:=by omega
    clear hcons xX hck hrt xY TW hJ mD htl htn hmd hml hjl hme hw0 hfin AY F8 hops;obtain⟨W0,rfl⟩:∃W0:World,W0=wr:=⟨_,rfl⟩
    have YX:st.length≤cp∧cp≤maxLen:=by
     obtain⟨A',cp',hv,a1,a2,hr,_⟩:=bM hos.out;injection hv with e1 e2 e3;subst e3;exact⟨a1,a2⟩
    obtain⟨hcp1,hcp2⟩:=YX;unfold maxLen at hcp2;have hba:=(Below.refl W0.heap.size W0).alloc (Nat.le_refl _) (.cells #[.int .i64 op,.bool neg,.string num,.string den,.string nm] 48);have rJ:=zH (own_below hos.out hba)
    have qw:Hid (Rd (W0.alloc (.cells #[.int .i64 op,.bool neg,.string num,.string den,.string nm] 48)) A (S st)):=by
     obtain⟨A',cp',hv,_,_,hr,_⟩:=bM rJ.out;injection hv with e1 e2 e3;subst e1;exact hr
    have fQ:=zH (hbr.trans (hba.mono hbr.size));have vI:=zH (aj.new W0 48 #[.int .i64 op,.bool neg,.string num,.string den,.string nm]);clear hos hbr hba;go_wp2_with fail;refine (Du.out _).mono ?_;rintro e w2 ⟨rfl,rfl⟩;go_wp2;obtain⟨WN,hWN⟩:=zE (W0.alloc (.cells #[.int .i64 op,.bool neg,.string num,.string den,.string nm] 48));obtain⟨B,hB⟩:=zE W0.heap.size;simp only[←hWN,←hB]
    rw[←hWN] at rJ qw fQ vI;rw[←hB] at vI;clear hWN hB
    go_loopg [9,10] o (fun g ov iv wq=>∃(j:Nat) (os:ByteArray),j+g=o∧iv=.int .i64 ((bG:Int)+(j:Int))∧ov=.string os∧Hid (os.data.toList=lN ((st.drop bG).take j))∧WN=wq)
    case atStart=>exact⟨0,⟨#[]⟩,by omega,by simp,rfl,rfl,rfl⟩
    case round=>
     obtain⟨j,os,hj,rfl,rfl,hoq,rfl⟩:=hrel;by_cases hjo:j<o
     ·have hj1:(bG:Int)+j<st.length:=by omega
      have hj2:0≤(bG:Int)+j:=by omega
      have hj3:((bG:Int)+j).toNat=bG+j:=by omega
      have hjs:bG+j<st.length:=by omega
      obtain⟨b2,off2,hA2,hb2,hcc⟩:=qw.out.at_ (k:=bG+j) (by rw[Gh];exact hjs);subst hA2;have hcell:=hcc (bG+j) (by rw[Gh];exact hjs);have hSx:(S st)[bG+j]'(by rw[Gh];exact hjs)=.string ⟨(st[bG+j]).toArray⟩:=by simp[S]
      rw[hSx] at hcell
      have hT:lN ((st.drop bG).take (j+1))=(if lN ((st.drop bG).take j)=[] then lN ((st.drop bG).take j) else lN ((st.drop bG).take j)++[44,32])++st[bG+j]:=by
       rw[List.take_succ_eq_append_getElem (by rw[List.length_drop];omega),IB,List.getElem_drop]
      have hxb:=HXB.out (bG+j) hjs;have hob:=IC.out j;rw[←hoq.out] at hT hob;generalize st[bG+j]=x at*;have uw:os.size≤420000120:=by rw[kH];exact hob
      have hys:(⟨x.toArray⟩:ByteArray).size≤420000120:=hxb;have hyx:(⟨x.toArray⟩:ByteArray).data.toList=x:=rfl;have HYX:=zH hyx;obtain⟨y,hy⟩:=zF ((⟨x.toArray⟩:ByteArray));rw[hy] at hcell hys HYX;have hemp:os.toList.isEmpty=decide (os.data.toList=[]):=by rw[ByteArray.toList_eq,Bool.eq_iff_iff,List.isEmpty_iff,decide_eq_true_eq]
      have HT:=zH hT;clear hcc hb2 hSx hxb hob hyx hy hoq hT;by_cases he:os.data.toList=[]
      ·have he1:os.toList.isEmpty=true:=by rw[hemp,decide_eq_true he]
       have HT2:Hid ((os++y).data.toList=lN ((st.drop bG).take (j+1))):=by
        show _=_;rw[HT.out,if_pos he,mO,HYX.out]
       clear hemp he;go_wp2
       go_roundg (o-(j+1))
       case measure=>omega
       case rel=>exact⟨j+1,os++y,by omega,by first|go_num|(congr 1;omega),rfl,HT2,rfl⟩
      ·have he1:os.toList.isEmpty=false:=by rw[hemp,decide_eq_false he]
       have HT2:Hid (((os++⟨#[44,32]⟩)++y).data.toList=lN ((st.drop bG).take (j+1))):=by
        show _=_;rw[HT.out,if_neg he,mO,mO,HYX.out]
       have vY:(os++⟨#[44,32]⟩).size≤420000122:=by rw[ByteArray.size_append];show _+2≤_;omega
       clear hemp he;go_wp2
       go_roundg (o-(j+1))
       case measure=>omega
       case rel=>exact⟨j+1,(os++⟨#[44,32]⟩)++y,by omega,by first|go_num|(congr 1;omega),rfl,HT2,rfl⟩
     ·have acY:j=o:=by omega
      have hx1:decide ((bG:Int)+j<st.length)=false:=by rw[decide_eq_false_iff_not];omega
      have hro:(st.drop bG).take j=st.drop bG:=List.take_of_length_le (by rw[List.length_drop];omega);have hJo:os.data.toList=gQ (st.drop bG):=by rw[hoq.out,hro,HJ.out]
      have uw:os.size≤500000000:=by rw[kH,hJo];exact HJL.out
      have HJO:=zH hJo;have agt:bG≤cp:=by omega
      clear hro hJo hoq IC HXB hj HJL HJ qw;clear acY hx1;have hcc:=fun X (h:Below WN.heap.size WN X)=>(vI.out.below h vI.out.lt).cells
      have tV:=zH (fun W=>xC 1 W (by omega) (by omega));unfold Ra.v at tV;have hsm:¬(9223372036854775807<wd.length+nm.size):=by omega
      go_upto_region 18 with fail
      refine gy (Below WN.heap.size WN) 99 (ak _ _ 1) (fun v hv hS=>?_)
      iterate 2 refine bU ?_
      refine bW 3 ?_;refine bW 4 ?_;refine eY 2 (HWD.out v) ?_;rintro e w1 ⟨rfl,hb1⟩;refine⟨_,rfl,ah hS hb1,fun hS=>?_⟩
      iterate 2 refine bU ?_
      refine dY ?_;obtain⟨s0,hs0⟩:=zF ((⟨wd.toArray⟩:ByteArray)++nm);have ai5:s0.size≤27:=by rw[←hs0,ByteArray.size_append];show wd.length+_≤_;omega
      have WL:Hid (s0.data.toList=wd++nm.data.toList):=by show _=_;rw[←hs0,mO]
      rw[hs0];have hl:=hcc _ hS;clear hs0 hsm hb1 hv
      go_upto_if 64 with fail
      go_cut [11] from 62 to 102 (fun u X=>∃s2:ByteArray,u=.string s2∧s2.size≤7000000∧Below WN.heap.size WN X∧Hid (s2.data.toList++(if 0<o then [40]++gQ (st.drop bG)++[41] else [])=tt))
      case first=>
       rcases aeK.out with (⟨g4,gn,go,gm,gt⟩|⟨g4,gn,go,gt⟩)|⟨g4,g2,gl,gs,go,gt⟩|⟨g4,g2,gl,gs,go,gt⟩|⟨g4,g2,gl,gs,go,gt⟩|⟨g4,g2,gl,gs,go,gt⟩|⟨g4,g2,gl,gs,go,gt⟩
       ·have e4:(op==4)=true:=beq_iff_eq.2 g4;have hd1:decide ((⟨neg,num,den⟩:Ra)=aW 1)=false:=decide_eq_false gm;rw[hd1] at ji;have hq:=ji.out;have GO:=zH go;have GT:=zH gt;clear g4 gn go gt hd1 gm
        go_upto_region 21 with fail
        clear hl;refine gy (Below WN.heap.size WN) 99 hS.drew (fun v hv hS=>?_)
        iterate 2 refine bU ?_
        refine eY 2 (tV.out v) ?_;rintro e w2 ⟨rfl,hb2⟩;refine⟨_,rfl,ah hS hb2,fun hS=>?_⟩;refine bU ?_;refine dY ?_;go_wp2
        go_meet
        case rel=>exact⟨_,rfl,by decide,hS,by show _=_;rw[if_neg (by rw[GO.out];omega),GT.out];rfl⟩
       ·have e4:(op==4)=true:=beq_iff_eq.2 g4;have hd1:decide ((⟨neg,num,den⟩:Ra)=aW 1)=true:=decide_eq_true gn;rw[hd1] at ji;have hq:=ji.out;have GO:=zH go;have GT:=zH gt;clear g4 gn go gt hd1
        go_upto_region 21 with fail
        clear hl;refine gy (Below WN.heap.size WN) 99 hS.drew (fun v hv hS=>?_)
        iterate 2 refine bU ?_
        refine eY 2 (tV.out v) ?_;rintro e w2 ⟨rfl,hb2⟩;refine⟨_,rfl,ah hS hb2,fun hS=>?_⟩;refine bU ?_;refine dY ?_;go_wp2
        go_meet
        case rel=>exact⟨_,rfl,by decide,hS,by show _=_;rw[if_neg (by rw[GO.out];omega),GT.out];rfl⟩
       ·have e4:(op==4)=false:=beq_eq_false_iff_ne.2 g4;have e2:(op==2)=true:=beq_iff_eq.2 g2;have GO:=zH go;have GT:=zH gt;subst gl gs;clear g4 g2 go gt ji;go_wp2_with fail;refine (DJ.out _).mono ?_;rintro e w' ⟨rfl,rfl⟩;go_wp2_with fail;refine (lQ.out _).mono ?_;rintro e w2 ⟨rfl,hb2⟩;replace hS:=ah hS hb2;clear hl;have hl:=hcc _ hS;go_wp2
        go_meet
        case rel=>exact⟨_,rfl,by simp only[ByteArray.size_append];show _+1≤_;omega,hS,by show _=_;rw[GT.out,if_neg (by rw[GO.out];omega)];simp[mO,WL.out]⟩
       ·have e4:(op==4)=false:=beq_eq_false_iff_ne.2 g4;have e2:(op==2)=false:=beq_eq_false_iff_ne.2 g2;have GO:=zH go;have GT:=zH gt;subst gl gs;clear g4 g2 go gt ji;go_wp2_with fail;refine (DJ.out _).mono ?_;rintro e w' ⟨rfl,rfl⟩;go_wp2_with fail;refine (lQ.out _).mono ?_;rintro e w2 ⟨rfl,hb2⟩;replace hS:=ah hS hb2;clear hl;have hl:=hcc _ hS;go_wp2
        go_meet
        case rel=>exact⟨_,rfl,by simp only[ByteArray.size_append];omega,hS,by show _=_;rw[GT.out,if_neg (by rw[GO.out];omega)];simp[mO,WL.out]⟩
       ·have e4:(op==4)=false:=beq_eq_false_iff_ne.2 g4;have e2:(op==2)=false:=beq_eq_false_iff_ne.2 g2;have GO:=zH go;have GT:=zH gt;subst gl gs;clear g4 g2 go gt ji;go_wp2_with fail;refine (DJ.out _).mono ?_;rintro e w' ⟨rfl,rfl⟩;go_wp2_with fail;refine (HST.out _).mono ?_;rintro e w' ⟨rfl,rfl⟩;go_wp2_with fail;refine (lQ.out _).mono ?_;rintro e w2 ⟨rfl,hb2⟩;replace hS:=ah hS hb2;clear hl;have hl:=hcc _ hS;go_wp2
        go_meet
        case rel=>exact⟨_,rfl,by simp only[ByteArray.size_append];show _+1+_+1≤_;omega,hS,by show _=_;rw[GT.out,if_pos GO.out];simp[mO,WL.out]⟩
       ·have e4:(op==4)=false:=beq_eq_false_iff_ne.2 g4;have e2:(op==2)=false:=beq_eq_false_iff_ne.2 g2;have GO:=zH go;have GT:=zH gt;subst gl gs;clear g4 g2 go gt ji;go_wp2_with fail;refine (DJ.out _).mono ?_;rintro e w' ⟨rfl,rfl⟩;go_wp2_with fail;refine (HST.out _).mono ?_;rintro e w' ⟨rfl,rfl⟩;go_wp2
        go_meet
        case rel=>exact⟨_,rfl,by omega,hS,by show _=_;rw[GT.out,if_neg (by rw[GO.out];omega)];simp[mO,WL.out]⟩
       ·have e4:(op==4)=false:=beq_eq_false_iff_ne.2 g4;have e2:(op==2)=false:=beq_eq_false_iff_ne.2 g2;have GO:=zH go;have GT:=zH gt;subst gl gs;clear g4 g2 go gt ji;go_wp2_with fail;refine (DJ.out _).mono ?_;rintro e w' ⟨rfl,rfl⟩;go_wp2_with fail;refine (HST.out _).mono ?_;rintro e w' ⟨rfl,rfl⟩;go_wp2
        go_meet
        case rel=>exact⟨_,rfl,by omega,hS,by show _=_;rw[GT.out,if_pos GO.out];simp[mO,WL.out]⟩
      case rest=>
       obtain⟨s2,rfl,hs2,hbx,HT2⟩:=hcut;have HOW:=zH (zZ (own_below rJ.out hbx) (show bG≤st.length from by omega));have HB3:=zH (fQ.out.trans (hbx.mono fQ.out.size));clear hl hS vI
       go_upto_if 93 with fail
       go_cut [11] from 92 to 102 (fun u X=>u=.string ⟨tt.toArray⟩∧X=wc)
       case first=>
        by_cases ho:0<o
        ·have hpo:(0:Int)<(o:Int):=by omega
         have HV:Hid (s2++(⟨#[40]⟩:ByteArray)++os++(⟨#[41]⟩:ByteArray)=⟨tt.toArray⟩):=ba_eq (by rw[←HT2.out,if_pos ho];simp[mO,HJO.out]);clear ho;go_wp2
         go_meet
         case rel=>exact⟨congrArg Value.string HV.out,rfl⟩
        ·have hpo:¬(0:Int)<(o:Int):=by omega
         have HV:Hid (s2=⟨tt.toArray⟩):=ba_eq (by rw[←HT2.out,if_neg ho,List.append_nil]);clear ho;go_wp2
         go_meet
         case rel=>exact⟨congrArg Value.string HV.out,rfl⟩
       case rest=>
        obtain⟨rfl,rfl⟩:=hcut;have hsl:(st.take bG++[tt]).length=bG+1:=by rw[List.length_append,List.length_take];simp;omega
        have HSL:=zH hsl;clear hsl hcc;go_wp2_with (at_builtin;go_must (refine zP Y5 Tryz.underlying97 HOW.out (by omega) HB3.out.size (fun v' w9 hown eP=>?_)))
        have hown2:w9.ownsRow w.heap.size 9 1 v' (bG+1) (S (st.take bG++[tt])):=by
         rw[←ac9,←ac8];exact hown
        obtain⟨A',cp',rfl,_⟩:=bM hown2;rw[←HSL.out] at hown2;have lG:=zH (HB3.out.trans eP);have wQ:=zH hown2;clear eP hown2 hown;go_wp2
        go_roundg (l1-(k+1))
        case measure=>omega
        case rel=>
         refine⟨k+1,st.take bG++[tt],A',cp',by omega,by go_num,by rw[HSL.out],by rw[HSL.out];omega,wQ,?_,?_,?_,?_,lG.out⟩
         ·show _=_;rw[agw.out,List.reverse_append];rfl
         ·show _=_;rw[HSL.out];exact rH.out
         ·intro s hs;rcases List.mem_append.1 hs with hs|hs
          ·exact hne.out s (List.mem_of_mem_take hs)
          ·obtain rfl:s=tt:=by simpa using hs
           exact zS.out
         ·show _≤_;rw[KR];have:=HML.out;omega
   ·have hkl:k=l1:=by omega
    have hst:st.length=1∧runT es []=st.reverse:=by
     have h1:=hck.out;have h2:=hrt.out;rw[hkl,H1.out.len,List.drop_length,chk] at h1;rw[hkl,H1.out.len,List.take_length] at h2;refine⟨?_,h2⟩;split at h1
     ·assumption
     ·cases h1
    obtain⟨hs1,hs2⟩:=hst
    obtain⟨x,rfl⟩:∃x,st=[x]:=by
     cases st with
     |nil=>simp at hs1
     |cons x t=>
      have:t=[]:=List.eq_nil_of_length_eq_zero (by simpa using hs1);exact⟨x,by rw[this]⟩
    have htx:textE es=x:=by unfold textE;rw[hs2];rfl
    have HT2:Hid (∀w',Below w.heap.size w w'→pV es w (.returned (.tuple #[.string ⟨x.toArray⟩,.int .i64 0])) w'):=by rw[←htx];exact iH.out
    obtain⟨A',cp',hv,_,_,hr,_⟩:=bM hos.out;injection hv with q1 q2 q3;subst q1;obtain⟨b2,off2,hA2,hb2,hcc⟩:=hr.at_ (k:=0) (by simp[S]);subst hA2;have hcell:=hcc 0 (by simp[S]);simp only[S,List.map_cons,List.map_nil,List.getElem_cons_zero,Nat.add_zero] at hcell;have hx1:decide (k<l1)=false:=decide_eq_false hlt;clear hs1 hs2 htx hcc hr hos hrt hck hme hne;go_wp2;go_ret2;exact HT2.out _ hbr
 ·obtain⟨zz,hzz⟩:=zF (bC es);have iH:Hid (∀w',Below w.heap.size w w'→pV es w (.returned (.tuple #[.string ⟨#[]⟩,.int .i64 zz])) w'):=fun w' hb=>⟨by rw[if_neg hz,hzz],hb⟩
  rw[hzz] at hz HC;have e1:(zz !=0)=true:=by simp[hz]
  clear hz h1 hf1 hzz;go_enter Tryz.func122,Tryz.ntmps122;go_wp2_with fail;refine HC.out.mono ?_;rintro e w1 ⟨rfl,hb1⟩;go_wp2;go_ret2;exact iH.out _ hb1
def Ra.cs (a:Ra):List Value:=[.bool a.neg,.string a.num,.string a.den]
structure R3 (w:World) (B:Nat) (a b r:Ra) (X:World):Prop where
 a:aj X B 40 a.cs
 b:aj X (B+1) 40 b.cs
 r:aj X (B+1+1) 40 r.cs
 o:Below w.heap.size w X
 e:w.heap.size≤B
section
variable {w X X':World} {B:Nat} {a b r:Ra}
theorem R3.grow (h:R3 w B a b r X) (k:Below X.heap.size X X'):R3 w B a b r X':=⟨h.a.below k h.a.lt,h.b.below k h.b.lt,h.r.below k h.r.lt,ah h.o k,h.e⟩
theorem R3.new (e:((w.alloc (.cells #[.bool a.neg,.string a.num,.string a.den] 40)).alloc (.cells #[.bool b.neg,.string b.num,.string b.den] 40)).alloc (.cells #[.bool false,.string ⟨#[]⟩,.string ⟨#[]⟩] 40)=X):R3 w w.heap.size a b zR X:=by
 subst e;have h1:=aj.new w 40 #[.bool a.neg,.string a.num,.string a.den];have h2:=aj.new (w.alloc (.cells #[.bool a.neg,.string a.num,.string a.den] 40)) 40 #[.bool b.neg,.string b.num,.string b.den];have h3:=aj.new ((w.alloc (.cells #[.bool a.neg,.string a.num,.string a.den] 40)).alloc (.cells #[.bool b.neg,.string b.num,.string b.den] 40)) 40 #[.bool false,.string ⟨#[]⟩,.string ⟨#[]⟩];rw[World.size_alloc] at h2;rw[World.size_alloc,World.size_alloc] at h3;exact⟨(h1.alloc _).alloc _,h2.alloc _,h3,((zB _ _).alloc (by rw[World.size_alloc];omega) _).alloc (by rw[World.size_alloc,World.size_alloc];omega) _,Nat.le_refl _⟩
def DK (X:World) (b:Nat) (v:Ra):World:=((X.setCell ⟨b,0,none⟩ (.bool v.neg)).setCell ⟨b,1,none⟩ (.string v.num)).setCell ⟨b,2,none⟩ (.string v.den)
theorem EN {b:Nat} {t:TypeId} {x y z:Value} (h:aj X b t [x,y,z]) (v:Ra):aj (DK X b v) b t v.cs:=((h.set 0 _).set 1 _).set 2 _
theorem uy {b c:Nat} {t:TypeId} {cs:List Value} (h:aj X b t cs) (hn:b≠c) (v:Ra):aj (DK X c v) b t cs:=((h.other (p:=⟨c,0,none⟩) hn _).other (p:=⟨c,1,none⟩) hn _).other (p:=⟨c,2,none⟩) hn _
theorem wS {c n:Nat} (h:Below n w X) (hn:n≤c) (v:Ra):Below n w (DK X c v):=((h.setCell (p:=⟨c,0,none⟩) hn _).setCell (p:=⟨c,1,none⟩) hn _).setCell (p:=⟨c,2,none⟩) hn _
theorem R3.sa (h:R3 w B a b r X) (v:Ra):R3 w B v b r (DK X B v):=⟨EN h.a v,uy h.b (by omega) v,uy h.r (by omega) v,wS h.o h.e v,h.e⟩
theorem R3.sb (h:R3 w B a b r X) (v:Ra):R3 w B a v r (DK X (B+1) v):=⟨uy h.a (by omega) v,EN h.b v,uy h.r (by omega) v,wS h.o (by have:=h.e;omega) v,h.e⟩
theorem R3.sr (h:R3 w B a b r X) (v:Ra):R3 w B a b v (DK X (B+1+1) v):=⟨uy h.a (by omega) v,uy h.b (by omega) v,EN h.r v,wS h.o (by have:=h.e;omega) v,h.e⟩
theorem R3.va (h:R3 w B a b r X) (k:Below X.heap.size X X') (v:Ra) {Y:World} (e:((X'.setCell ⟨B,0,none⟩ (.bool v.neg)).setCell ⟨B,1,none⟩ (.string v.num)).setCell ⟨B,2,none⟩ (.string v.den)=Y):R3 w B v b r Y:=by subst e;exact (h.grow k).sa v
theorem R3.vb (h:R3 w B a b r X) (k:Below X.heap.size X X') (v:Ra) {Y:World} (e:((X'.setCell ⟨B+1,0,none⟩ (.bool v.neg)).setCell ⟨B+1,1,none⟩ (.string v.num)).setCell ⟨B+1,2,none⟩ (.string v.den)=Y):R3 w B a v r Y:=by subst e;exact (h.grow k).sb v
theorem R3.vr (h:R3 w B a b r X) (k:Below X.heap.size X X') (v:Ra) {Y:World} (e:((X'.setCell ⟨B+1+1,0,none⟩ (.bool v.neg)).setCell ⟨B+1+1,1,none⟩ (.string v.num)).setCell ⟨B+1+1,2,none⟩ (.string v.den)=Y):R3 w B a b v Y:=by subst e;exact (h.grow k).sr v
theorem R3.all (_:R3 w B a b r X):∀Y,R3 w B a b r Y→(Y.cell? ⟨B,0,none⟩=some (.bool a.neg)∧Y.cell? ⟨B,1,none⟩=some (.string a.num)∧Y.cell? ⟨B,2,none⟩=some (.string a.den))∧(Y.cell? ⟨B+1,0,none⟩=some (.bool b.neg)∧Y.cell? ⟨B+1,1,none⟩=some (.string b.num)∧Y.cell? ⟨B+1,2,none⟩=some (.string b.den))∧
  (Y.cell? ⟨B+1+1,0,none⟩=some (.bool r.neg)∧Y.cell? ⟨B+1+1,1,none⟩=some (.string r.num)∧Y.cell? ⟨B+1+1,2,none⟩=some (.string r.den))∧(∀i,Y.frozen? ⟨B,i,none⟩=false)∧(∀i,Y.frozen? ⟨B+1,i,none⟩=false)∧∀i,Y.frozen? ⟨B+1+1,i,none⟩=false:=
 fun _ k=>⟨⟨k.a.cells 0,k.a.cells 1,k.a.cells 2⟩,⟨k.b.cells 0,k.b.cells 1,k.b.cells 2⟩,⟨k.r.cells 0,k.r.cells 1,k.r.cells 2⟩,k.a.aF,k.b.aF,k.r.aF⟩
theorem R3.ab (_:R3 w B a b r X):∀Y,(∃r,R3 w B a b r Y)→(Y.cell? ⟨B,0,none⟩=some (.bool a.neg)∧Y.cell? ⟨B,1,none⟩=some (.string a.num)∧Y.cell? ⟨B,2,none⟩=some (.string a.den))∧(Y.cell? ⟨B+1,0,none⟩=some (.bool b.neg)∧Y.cell? ⟨B+1,1,none⟩=some (.string b.num)∧Y.cell? ⟨B+1,2,none⟩=some (.string b.den))∧∀i,Y.frozen? ⟨B+1+1,i,none⟩=false:=
 fun _ ⟨_,k⟩=>⟨⟨k.a.cells 0,k.a.cells 1,k.a.cells 2⟩,⟨k.b.cells 0,k.b.cells 1,k.b.cells 2⟩,k.r.aF⟩
end
theorem Q8 (a b:ByteArray) (w:World) (ha:a.size≤1073741824) (hb:b.size≤1073741824) (h:aA b≤aA a):
  Calls Tryz.prog 224 #[.string a,.string b] w fun e w'=>e=.returned (.tuple #[.string (aB (aA a-aA b)),.bool true])∧Below w.heap.size w w':=by
 have hc:¬(fB (aA a) (aA b)<0):=by unfold fB;split<;>(try split)<;>omega
 obtain⟨z,hz⟩:=zF (fB (aA a) (aA b));rw[hz] at hc;have HZ:=zH hz;clear hz;go_enter Tryz.func224,Tryz.ntmps224;go_wp2_with fail;refine (xM a b _ (by omega) (by omega)).mono ?_;rw[HZ.out];rintro e w1 ⟨rfl,rfl⟩;go_wp2_with fail;refine (rE a _ ha).mono ?_;rintro e w1 ⟨A,l,c,rfl,h1,hb1⟩;go_wp2_with fail;refine (rE b _ hb).mono ?_;rintro e w2 ⟨A',l',c',rfl,h2,hb2⟩;have hl:=h1.gX (eX a);go_wp2_with fail;refine (Ic A A' l c l' c' _ _ w2 (h1.below hb2) h2 (by omega) h).mono ?_;rintro e w3 ⟨A3,l3,c3,rfl,h3,hb3⟩;have hl3:=h3.gX (K:=a.size) (Nat.lt_of_le_of_lt (Nat.sub_le _ _) (eX a));obtain⟨xs,e1,r1,k1,v1⟩:=h3.digits;go_wp2_with fail;refine (qo A3 l3 c3 xs w3 e1 h3.le (by omega) r1 k1.lt).mono ?_;rintro e w4 ⟨rfl,hb4⟩;rw[v1];replace hb4:=ah (ah (ah hb1 hb2) hb3) hb4;clear e1 v1 hb1 hb2 hb3 h1 h2 h3 hl hl3;go_wp2;go_ret2;exact⟨rfl,hb4⟩
theorem Y7 (a b:Ra) (w:World) (ha:okR a=true) (hb:okR b=true) (S:Nat) (hS:S≤1048577) (h1:a.num.size≤S) (h2:a.den.size≤S) (h3:b.num.size≤S) (h4:b.den.size≤S):
  Calls Tryz.prog 168 #[a.v,b.v] w fun e w'=>e=.returned (nH a b).v∧Below w.heap.size w w':=by
 obtain⟨p1,p2,p3,p4⟩:=gY ha;obtain⟨q1,q2,q3,q4⟩:=gY hb;have jE:=zH (fun W=>nG a W (by omega) (by omega));have kC:=zH (fun W=>nG b W (by omega) (by omega));rw[nZ ha] at jE;rw[nZ hb] at kC;obtain⟨x,hx⟩:=zF (aA a.num*aA b.den);obtain⟨y,hy⟩:=zF (aA b.num*aA a.den);obtain⟨d,hd⟩:=zF (aA a.den*aA b.den);have bx:x<256 ^ (S+S):=hx ▸ fE (dB a.num S h1) (dB b.den S h4);have NR:y<256 ^ (S+S):=hy ▸ fE (dB b.num S h3) (dB a.den S h2);have bd:d<256 ^ (S+S):=hd ▸ fE (dB a.den S h2) (dB b.den S h4);have hd0:0<d:=hd ▸ Nat.mul_pos p2 q2;have sx:(aB x).size≤S+S:=aV x (S+S) bx;have sy:(aB y).size≤S+S:=aV y (S+S) NR;have bs:x+y<256 ^ (S+S+1):=by rw[Nat.pow_succ];omega
 have up:256 ^ (S+S)≤256 ^ (S+S+1):=Nat.pow_le_pow_right (by omega) (by omega);have jU:=zH (fun W=>xP a.num b.den W (by omega) (by omega));have qx:=zH (fun W=>xP b.num a.den W (by omega) (by omega));have Ip:=zH (fun W=>xP a.den b.den W (by omega) (by omega));rw[hx] at jU;rw[hy] at qx;rw[hd] at Ip;have HA:=zH (fun W=>Nv (aB x) (aB y) W (by omega) (by omega));have HC:=zH (fun W=>xM (aB x) (aB y) W (by omega) (by omega));rw[aX,aX] at HA HC;have BR:=zH fun (h:y≤x) W=>Q8 (aB x) (aB y) W (by omega) (by omega) (by rw[aX,aX];exact h)
 have HS2:=zH fun (h:x≤y) W=>Q8 (aB y) (aB x) W (by omega) (by omega) (by rw[aX,aX];exact h)
 rw[aX,aX] at BR HS2;have HL:Hid (∀g n W,n<256 ^ (S+S+1)→Calls Tryz.prog 172 #[.bool g,.string (aB n),.string (aB d)] W fun e w'=>e=.returned (low g n d).v∧Below W.heap.size W w'):=fun g n W hn=>Fq g n d (S+S+1) W (by omega) hn (by omega) hd0
 have HR:Hid (nH a b=if a.neg=b.neg then low a.neg (x+y) d else if y≤x then low a.neg (x-y) d else low b.neg (y-x) d):=by show _=_;unfold nH;rw[hx,hy,hd]
 have HB:Hid (x+y<256 ^ (S+S+1)∧x-y<256 ^ (S+S+1)∧y-x<256 ^ (S+S+1)):=⟨bs,by omega,by omega⟩
 obtain⟨r,hr⟩:=zE (nH a b);rw[←hr] at HR⊢;clear hr ha hb h1 h2 h3 h4 p1 p2 p3 p4 q1 q2 q3 q4 hx hy hd bx NR bd hd0 sx sy bs up hS;obtain⟨an,au,ad⟩:=a;obtain⟨bn,bu,bd⟩:=b;unfold Ra.v at jE kC HL⊢;simp only at jE kC jU qx Ip HR⊢;go_enter Tryz.func168,Tryz.ntmps168
 go_upto_region 1 with fail
 generalize hX:World.alloc (World.alloc (World.alloc w _) _) _=X;have h:=R3.new (a:=⟨an,au,ad⟩) (b:=⟨bn,bu,bd⟩) hX;clear hX;have hc:=h.all _ h;go_wp2_with fail;refine (jE.out _).mono ?_;rintro e w1 ⟨rfl,hb1⟩;clear hc;have hc:=h.all _ (h.grow hb1)
 go_upto_region 2 with fail
 generalize hX:World.setCell (World.setCell (World.setCell _ _ _) _ _) _ _=X1;replace h:=h.va hb1 ⟨an,au,ad⟩ hX;clear hX hc hb1;have hc:=h.all _ h;go_wp2_with fail;refine (kC.out _).mono ?_;rintro e w2 ⟨rfl,hb2⟩;clear hc;have hc:=h.all _ (h.grow hb2)
 go_upto_region 3 with fail
 generalize hX:World.setCell (World.setCell (World.setCell _ _ _) _ _) _ _=X2;replace h:=h.vb hb2 ⟨bn,bu,bd⟩ hX;clear hX hc hb2;have hc:=h.all _ h;go_wp2_with fail;refine (jU.out _).mono ?_;rintro e w3 ⟨rfl,hb⟩;replace h:=h.grow hb;clear hc hb;have hc:=h.all _ h;go_wp2_with fail;refine (qx.out _).mono ?_;rintro e w4 ⟨rfl,hb⟩;replace h:=h.grow hb;clear hc hb;have hc:=h.all _ h;go_wp2_with fail;refine (Ip.out _).mono ?_;rintro e w5 ⟨rfl,hb⟩;replace h:=h.grow hb;clear hc hb;have hc:=h.all;have hc5:=hc _ h;by_cases hn:an=bn
 ·have e1:(an==bn)=true:=by rw[hn];exact beq_self_eq_true _
  have HR2:Hid (r=low an (x+y) d):=by show _=_;rw[HR.out,if_pos hn]
  clear hn
  go_upto_region 7 with fail
  clear hc5;refine gy (R3 w w.heap.size ⟨an,au,ad⟩ ⟨bn,bu,bd⟩ zR) 7 (h.grow (ak _ _ 1)) (fun w6 h6 hS=>?_)
  iterate 4 refine bU ?_
  refine bW 5 ?_;refine eY 4 (HA.out _) ?_;rintro e w7 ⟨rfl,hb⟩;refine⟨_,rfl,hS.grow hb,fun hS=>?_⟩;refine eY 6 (HL.out an (x+y) _ HB.out.1) ?_;rintro e w8 ⟨rfl,hb⟩;refine⟨_,rfl,hS.grow hb,fun hS=>?_⟩;rw[←HR2.out];obtain⟨rn,ru,rd⟩:=r;refine qg 7 (fun h=>absurd rfl h) (fun _=>?_);refine dY ?_;clear hc;go_wp2;generalize hX:World.setCell (World.setCell (World.setCell _ _ _) _ _) _ _=X3;have h:=hS.vr (Below.refl _ _) ⟨rn,ru,rd⟩ hX;have hc:=h.all _ h;exact bodyPost_ret (v:=Ra.v ⟨rn,ru,rd⟩) (by simp[results,Tryz.results168,go_sem,hc,Ra.v]) rfl ⟨rfl,h.o⟩
 ·have e1:(an==bn)=false:=beq_eq_false_iff_ne.2 hn;have HR2:Hid (r=if y≤x then low an (x-y) d else low bn (y-x) d):=by show _=_;rw[HR.out,if_neg hn]
  clear hn;go_wp2_with fail;refine (HC.out _).mono ?_;rintro e w6 ⟨rfl,rfl⟩;by_cases hxy:y≤x
  ·have e2:¬(fB x y<0):=by unfold fB;split<;>(try split)<;>omega
   have e3:0≤fB x y:=by omega
   have HR3:Hid (r=low an (x-y) d):=by show _=_;rw[HR2.out,if_pos hxy]
   have HX:=zH hxy;clear hxy;go_wp2_with fail;refine (BR.out HX.out _).mono ?_;rintro e w7 ⟨rfl,hb⟩;replace h:=h.grow hb;clear hc5 hb;have hc5:=hc _ h;go_wp2_with fail;refine (HL.out an (x-y) _ HB.out.2.1).mono ?_;rintro e w8 ⟨rfl,hb⟩;replace h:=h.grow hb;clear hc5 hb;have hc5:=hc _ h;rw[←HR3.out];obtain⟨rn,ru,rd⟩:=r;go_wp2;generalize hX:World.setCell (World.setCell (World.setCell _ _ _) _ _) _ _=X3;have h:=h.vr (Below.refl _ _) ⟨rn,ru,rd⟩ hX;have hc:=h.all _ h;exact bodyPost_ret (v:=Ra.v ⟨rn,ru,rd⟩) (by simp[results,Tryz.results168,go_sem,hc,Ra.v]) rfl ⟨rfl,h.o⟩
  ·have e2:fB x y<0:=by unfold fB;rw[if_pos (by omega)];decide
   have e3:¬(0≤fB x y):=by omega
   have HR3:Hid (r=low bn (y-x) d):=by show _=_;rw[HR2.out,if_neg hxy]
   have HX:=zH (show x≤y by omega);clear hxy;go_wp2_with fail;refine (HS2.out HX.out _).mono ?_;rintro e w7 ⟨rfl,hb⟩;replace h:=h.grow hb;clear hc5 hb;have hc5:=hc _ h;go_wp2_with fail;refine (HL.out bn (y-x) _ HB.out.2.2).mono ?_;rintro e w8 ⟨rfl,hb⟩;replace h:=h.grow hb;clear hc5 hb;have hc5:=hc _ h;rw[←HR3.out];obtain⟨rn,ru,rd⟩:=r;go_wp2;generalize hX:World.setCell (World.setCell (World.setCell _ _ _) _ _) _ _=X3;have h:=h.vr (Below.refl _ _) ⟨rn,ru,rd⟩ hX;have hc:=h.all _ h;exact bodyPost_ret (v:=Ra.v ⟨rn,ru,rd⟩) (by simp[results,Tryz.results168,go_sem,hc,Ra.v]) rfl ⟨rfl,h.o⟩
theorem abG {a:Ra} (h:okR a=true):negR a=qj a:=by
 obtain⟨p1,p2,p3,p4⟩:=gY h;unfold negR qj;rw[nZ h];by_cases h0:a.num=⟨#[]⟩
 ·rw[h0]
  have hn:a.neg=false:=by
   have:=congrArg Ra.neg p4;unfold low at this;rw[h0,show aA ⟨#[]⟩=0 from rfl] at this;simpa using this.symm
  obtain⟨n,u,d⟩:=a;simp only at hn h0;subst hn h0;rw[if_pos (by rw[ByteArray.toList_eq];rfl)];simp
 ·rw[AQ h0];simp[h0]
theorem Y8 (a b:Ra) (w:World) (ha:okR a=true) (hb:okR b=true) (S:Nat) (hS:S≤1048577) (h1:a.num.size≤S) (h2:a.den.size≤S) (h3:b.num.size≤S) (h4:b.den.size≤S):
  Calls Tryz.prog 128 #[a.v,b.v] w fun e w'=>e=.returned (nH a (qj b)).v∧Below w.heap.size w w':=by
 have HA:=zH (fun W=>Y7 a (qj b) W ha (V4 hb) S hS h1 h2 h3 h4);have HG:=zH (fun W=>YR b W (by omega) (by omega));rw[abG hb] at HG;generalize nH a (qj b)=r at*;generalize qj b=c at*;obtain⟨an,au,ad⟩:=a;obtain⟨bn,bu,bd⟩:=b;obtain⟨cn,cu,cd⟩:=c;obtain⟨rn,ru,rd⟩:=r;unfold Ra.v at HA HG⊢;clear ha hb h1 h2 h3 h4 hS;simp only at HA HG⊢;go_enter Tryz.func128,Tryz.ntmps128
 go_upto_region 1 with fail
 generalize hX:World.alloc (World.alloc (World.alloc w _) _) _=X;have h:=R3.new (a:=⟨an,au,ad⟩) (b:=⟨bn,bu,bd⟩) hX;clear hX;have hc:=h.all;refine gy (R3 w w.heap.size ⟨an,au,ad⟩ ⟨bn,bu,bd⟩ zR) 4 (h.grow (ak _ _ 1)) (fun w6 h6 hS=>?_)
 iterate 2 refine bU ?_
 refine eY 2 (HG.out _) ?_;rintro e w7 ⟨rfl,hb⟩;refine⟨_,rfl,hS.grow hb,fun hS=>?_⟩;refine eY 3 (HA.out _) ?_;rintro e w8 ⟨rfl,hb⟩;refine⟨_,rfl,hS.grow hb,fun hS=>?_⟩;refine qg 4 (fun h=>absurd rfl h) (fun _=>?_);refine dY ?_;clear hc;go_wp2;generalize hX:World.setCell (World.setCell (World.setCell _ _ _) _ _) _ _=X3;have h:=hS.vr (Below.refl _ _) ⟨rn,ru,rd⟩ hX;have hc:=h.all _ h;exact bodyPost_ret (v:=Ra.v ⟨rn,ru,rd⟩) (by simp[results,Tryz.results128,go_sem,hc,Ra.v]) rfl ⟨rfl,h.o⟩
theorem Y9 (a b:Ra) (w:World) (ha:okR a=true) (hb:okR b=true) (S:Nat) (hS:S≤1048577) (h1:a.num.size≤S) (h2:a.den.size≤S) (h3:b.num.size≤S) (h4:b.den.size≤S):
  Calls Tryz.prog 84 #[a.v,b.v] w fun e w'=>e=.returned (.int .i64 (lX a b))∧Below w.heap.size w w':=by
 have hz:=KG a (qj b) S h1 h2 h3 h4;have HA:=zH (fun W=>Y8 a b W ha hb S hS h1 h2 h3 h4);have HG:=zH (fun W=>yN (nH a (qj b)) W (by omega) (by omega));unfold lX;generalize nH a (qj b)=r at*;obtain⟨z,FC⟩:=zF (dV r);rw[FC] at HG⊢;obtain⟨an,au,ad⟩:=a;obtain⟨bn,bu,bd⟩:=b;obtain⟨rn,ru,rd⟩:=r;unfold Ra.v at HA HG⊢;clear ha hb h1 h2 h3 h4 hS hz FC;simp only at HA HG⊢;obtain⟨hk0,hk1,hba,_⟩:=Two.new w 40 40 #[.bool an,.string au,.string ad] #[.bool bn,.string bu,.string bd];go_enter Tryz.func84,Tryz.ntmps84
 go_upto_region 1 with fail
 generalize (w.alloc _).alloc _=W at hk0 hk1 hba⊢;have hc0:=hk0.cells;have hc1:=hk1.cells;clear hk0 hk1;go_wp2_with fail;refine (HA.out _).mono ?_;rintro e w1 ⟨rfl,hb1⟩;go_wp2_with fail;refine (HG.out _).mono ?_;rintro e w2 ⟨rfl,hb2⟩;go_wp2;go_ret;exact⟨rfl,ah (ah hba hb1) hb2⟩
theorem Za (a b:Ra) (w:World) (ha:okR a=true) (hb:okR b=true) (h0:b.num≠⟨#[]⟩) (S:Nat) (hS:S≤1048577) (h1:a.num.size≤S) (h2:a.den.size≤S) (h3:b.num.size≤S) (h4:b.den.size≤S):
  Calls Tryz.prog 131 #[a.v,b.v] w fun e w'=>e=.returned (.tuple #[(iZ a b).1.v,.bool true])∧Below w.heap.size w w':=by
 obtain⟨p1,p2,p3,p4⟩:=gY ha;obtain⟨q1,q2,q3,q4⟩:=gY hb;have jE:=zH (fun W=>nG a W (by omega) (by omega));have kC:=zH (fun W=>nG b W (by omega) (by omega));rw[nZ ha] at jE;rw[nZ hb] at kC;have e:(iZ a b).1=low (a.neg !=b.neg) (aA a.num*aA b.den) (aA a.den*aA b.num):=by unfold iZ;rw[if_neg h0]
 have HL:=zH (fun W=>Fq (a.neg !=b.neg) _ _ (S+S) W (by omega) (fE (dB a.num S h1) (dB b.den S h4)) (fE (dB a.den S h2) (dB b.num S h3)) (Nat.mul_pos p2 (EJ q3 h0)));rw[←e,show (a.neg !=b.neg)= !(a.neg==b.neg) from rfl] at HL;have jU:=zH (fun W=>xP a.num b.den W (by omega) (by omega));have qx:=zH (fun W=>xP a.den b.num W (by omega) (by omega));have e1:=AQ h0;generalize (iZ a b).1=r at*;generalize aB (aA a.num*aA b.den)=M1 at*;generalize aB (aA a.den*aA b.num)=M2 at*;clear ha hb h1 h2 h3 h4 hS p1 p2 p3 p4 q1 q2 q3 q4 e h0;obtain⟨an,au,ad⟩:=a;obtain⟨bn,bu,bd⟩:=b;obtain⟨rn,ru,rd⟩:=r;unfold Ra.v at jE kC HL⊢;simp only at jE kC jU qx HL e1⊢;have e2:(bu.toList==(⟨#[]⟩:ByteArray).toList)=false:=by rw[show (⟨#[]⟩:ByteArray).toList=[] by rw[ByteArray.toList_eq]];cases h:bu.toList;rw[h] at e1;cases e1;rfl
 have e3:(bu.toList==[])=false:=by cases h:bu.toList;rw[h] at e1;cases e1;rfl
 go_enter Tryz.func131,Tryz.ntmps131
 go_upto_region 1 with fail
 generalize hX:World.alloc (World.alloc (World.alloc w _) _) _=X;have h:=R3.new (a:=⟨an,au,ad⟩) (b:=⟨bn,bu,bd⟩) hX;clear hX;have hc:=h.all _ h;go_wp2_with fail;refine (jE.out _).mono ?_;rintro e w1 ⟨rfl,hb1⟩;clear hc;have hc:=h.all _ (h.grow hb1)
 go_upto_region 2 with fail
 generalize hX:World.setCell (World.setCell (World.setCell _ _ _) _ _) _ _=X1;replace h:=h.va hb1 ⟨an,au,ad⟩ hX;clear hX hc hb1;have hc:=h.all _ h;go_wp2_with fail;refine (kC.out _).mono ?_;rintro e w2 ⟨rfl,hb2⟩;clear hc;have hc:=h.all _ (h.grow hb2)
 go_upto_region 3 with fail
 generalize hX:World.setCell (World.setCell (World.setCell _ _ _) _ _) _ _=X2;replace h:=h.vb hb2 ⟨bn,bu,bd⟩ hX;clear hX hc hb2;have hc:=h.ab;have hc5:=hc _ ⟨_,h⟩
 go_upto_region 5 with fail
 clear hc5;refine gy (fun X=>∃r,R3 w w.heap.size ⟨an,au,ad⟩ ⟨bn,bu,bd⟩ r X) 99 ⟨_,h.grow (ak _ _ 1)⟩ (fun w6 h6 hS=>?_)
 iterate 9 refine bU ?_
 refine bW 10 ?_;refine bW 11 ?_;refine bW 12 ?_;refine bW 13 ?_;refine eY 9 (jU.out _) ?_;rintro e w7 ⟨rfl,hb⟩;refine⟨_,rfl,hS.imp (fun _ h=>h.grow hb),fun hS=>?_⟩;refine eY 14 (qx.out _) ?_;rintro e w8 ⟨rfl,hb⟩;refine⟨_,rfl,hS.imp (fun _ h=>h.grow hb),fun hS=>?_⟩;refine eY 15 (HL.out _) ?_;rintro e w9 ⟨rfl,hb⟩;refine⟨_,rfl,hS.imp (fun _ h=>h.grow hb),fun hS=>?_⟩;obtain⟨_,h⟩:=hS;have BU:=h.all _ h;have hS:=h.vr (Below.refl _ _) ⟨rn,ru,rd⟩ rfl;refine qg 16 (fun _=>⟨_,hS⟩) (fun _=>?_);refine bU ?_ (hS:=⟨_,hS⟩);refine dY ?_;clear hc hS BU;go_wp2;generalize hX:World.setCell (World.setCell (World.setCell _ _ _) _ _) _ _=X3;replace h:=h.vr (Below.refl _ _) ⟨rn,ru,rd⟩ hX;have hc:=h.all _ h;exact bodyPost_ret (v:=.tuple #[Ra.v ⟨rn,ru,rd⟩,.bool true]) (by simp[results,Tryz.results131,go_sem,hc,Ra.v]) rfl ⟨rfl,h.o⟩
def iI (s:ByteArray):ByteArray:=s.extract 0 (min s.size 60)
def amt (a:Ra):Ra:=⟨a.neg,iI a.num,iI a.den⟩
theorem Ob (s:ByteArray):∃m:Nat,min (s.size:Int) 60=(m:Int)∧(m:Int)≤s.size∧m≤s.size∧iI s=s.extract 0 m:=⟨min s.size 60,by omega,by omega,by omega,rfl⟩
theorem Qg (a:Ra) (w:World):Calls Tryz.prog 6 #[a.v] w fun e w'=>e=.returned (amt a).v∧Below w.heap.size w w':=by
 obtain⟨n,u,d⟩:=a;unfold amt Ra.v;simp only
 obtain⟨hk0,hk1,hba,_⟩:=Two.new w 40 40 #[.bool n,.string u,.string d] #[.bool false,.string ⟨#[]⟩,.string ⟨#[]⟩];obtain⟨mu,u1,u2,u3,hu⟩:=Ob u;obtain⟨md,d1,d2,d3,hd⟩:=Ob d;rw[hu,hd];clear hu hd;go_enter Tryz.func6,Tryz.ntmps6
 go_upto_region 1 with fail
 generalize (w.alloc _).alloc _=W at hk0 hk1 hba⊢;have hc0:=hk0.cells;have hf0:=hk0.aF
 go_upto_region 2 with fail
 generalize hX:World.setCell _ _ _=X;have hx0:aj X w.heap.size 40 [.bool n,.string (u.extract 0 mu),.string d]:=by rw[←hX];exact hk0.set 1 _
 have hx1:aj X (w.heap.size+1) 40 [.bool false,.string ⟨#[]⟩,.string ⟨#[]⟩]:=by rw[←hX];exact hk1.other (p:=⟨w.heap.size,1,none⟩) (by show w.heap.size+1≠w.heap.size;omega) _
 have hbx:Below w.heap.size w X:=by rw[←hX];exact hba.setCell (p:=⟨w.heap.size,1,none⟩) (Nat.le_refl _) _
 clear hX hc0 hf0 hk0 hk1 hba;have hc0:=hx0.cells;have hf0:=hx0.aF
 go_upto_region 3 with fail
 generalize hX:World.setCell _ _ _=Y;have hy0:aj Y w.heap.size 40 [.bool n,.string (u.extract 0 mu),.string (d.extract 0 md)]:=by rw[←hX];exact hx0.set 2 _
 have hy1:aj Y (w.heap.size+1) 40 [.bool false,.string ⟨#[]⟩,.string ⟨#[]⟩]:=by rw[←hX];exact hx1.other (p:=⟨w.heap.size,2,none⟩) (by show w.heap.size+1≠w.heap.size;omega) _
 have hby:Below w.heap.size w Y:=by rw[←hX];exact hbx.setCell (p:=⟨w.heap.size,2,none⟩) (Nat.le_refl _) _
 clear hX hc0 hf0 hx0 hx1 hbx;have hc0:=hy0.cells;have hc1:=hy1.cells;have hf1:=hy1.aF;have h9:=(EN hy1 ⟨n,u.extract 0 mu,d.extract 0 md⟩).cells;have eP:=wS hby (Nat.le_succ w.heap.size) ⟨n,u.extract 0 mu,d.extract 0 md⟩;unfold DK Ra.cs at h9;unfold DK at eP;simp only at h9 eP;clear hy0 hy1 hby u1 u2 u3 d1 d2 d3;go_wp2;exact bodyPost_ret (v:=Ra.v ⟨n,u.extract 0 mu,d.extract 0 md⟩) (by simp[results,Tryz.results6,go_sem,h9,Ra.v]) rfl ⟨rfl,eP⟩
end Go.Proofs.YtgfeadgafdijaaaGreatDoor
