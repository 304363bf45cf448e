/- A part of the proof: Gb. -/
import Derived.Test.YtbicehdehiakgaaGreatDoorG00
import Derived.Test.YtbicehdehiakgaaGreatDoorG22
set_option linter.unusedVariables false
set_option linter.unusedSimpArgs false
namespace Go.Proofs.YtbicehdehiakgaaGreatDoor
open Go.RowKit
def S (st:List (List UInt8)):List Value:=st.map fun l=>.string ⟨l.toArray⟩
theorem S_length (st:List (List UInt8)):(S st).length=st.length:=by simp[S]
theorem S_take (st:List (List UInt8)) (n:Nat):(S st).take n=S (st.take n):=by simp[S,List.map_take]
theorem S_snoc (st:List (List UInt8)) (l:List UInt8):S st++[.string ⟨l.toArray⟩]=S (st++[l]):=by simp[S]
theorem info_str:(Tryz.prog.info? 9).map (fun i=>(i.zero,i.size,i.bytes))=some (some (.string ⟨#[]⟩),1,16):=by kernel_rfl
theorem ba_eq {v:ByteArray} {l:List UInt8} (h:v.data.toList=l):v=⟨l.toArray⟩:=by subst h;obtain⟨⟨x⟩⟩:=v;rfl
theorem ba_app (x y:ByteArray):(x++y).data.toList=x.data.toList++y.data.toList:=by rw[ByteArray.data_append,Array.toList_append]
theorem ba_size (v:ByteArray):v.size=v.data.toList.length:=by simp
theorem rev_take' {α:Type} (st:List α) (o:Nat):(st.reverse.take o).reverse=st.drop (st.length-o)∧st.reverse.drop o=(st.take (st.length-o)).reverse:=by
 constructor
 ·rw[List.take_reverse,List.reverse_reverse]
 ·rw[List.drop_reverse]
def meas (st:List (List UInt8)):Nat:=(st.map List.length).sum+2*st.length
theorem meas_split (st:List (List UInt8)) (r:Nat):meas st=meas (st.take r)+meas (st.drop r):=by
 unfold meas
 conv=>lhs;rw[←List.take_append_drop r st]
 rw[List.map_append,List.sum_append,List.length_append];omega
theorem meas_snoc (st:List (List UInt8)) (l:List UInt8):meas (st++[l])=meas st+l.length+2:=by
 unfold meas;rw[List.map_append,List.sum_append,List.length_append];simp;omega
theorem name_len {n:Nd} (h:wrongN n=0):n.name.size≤20:=by
 rcases wrongN_ways n with h'|h'|h'|h'|h'|h'|h'
 ·rw[h] at h';exact absurd h'.2 (by decide)
 ·rw[h] at h';exact absurd h'.2.2 (by decide)
 ·rw[h] at h';exact absurd h'.2.2.2 (by decide)
 ·rw[h] at h';exact absurd h'.2.2.2.2.2 (by decide)
 ·have:=(emp_nil _).1 h'.2.2.2.2.1;rw[this];show 0≤20;omega
 ·rw[h] at h';exact absurd h'.2.2.2.2.2 (by decide)
 ·have:=h'.2.2.2.2.1;unfold nameB at this;simp only[Bool.and_eq_true,decide_eq_true_eq] at this;have:=this.1.2;rw[ba_size];exact this
theorem txt_ways {n:Nd} (h:wrongN n=0) (J:List (List UInt8)):
  ((n.op=4∧n.num=ofI 0∧(shp n.op).ops=0∧n.num≠ofI 1∧txt n J=[110,111])∨(n.op=4∧n.num=ofI 1∧(shp n.op).ops=0∧txt n J=[121,101,115]))∨
  (n.op≠4∧n.op=2∧(shp n.op).lit=true∧(shp n.op).stp=false∧(shp n.op).ops=0∧txt n J=(shp n.op).word++n.name.data.toList++(textR n.num).data.toList++[100])∨
  (n.op≠4∧n.op≠2∧(shp n.op).lit=true∧(shp n.op).stp=false∧(shp n.op).ops=0∧txt n J=(shp n.op).word++n.name.data.toList++(textR n.num).data.toList)∨
  (n.op≠4∧n.op≠2∧(shp n.op).lit=false∧(shp n.op).stp=true∧0<(shp n.op).ops∧txt n J=(shp n.op).word++n.name.data.toList++([91]++(textR n.num).data.toList++[93])++([40]++joinC J++[41]))∨
  (n.op≠4∧n.op≠2∧(shp n.op).lit=false∧(shp n.op).stp=false∧(shp n.op).ops=0∧txt n J=(shp n.op).word++n.name.data.toList)∨
  (n.op≠4∧n.op≠2∧(shp n.op).lit=false∧(shp n.op).stp=false∧0<(shp n.op).ops∧txt n J=(shp n.op).word++n.name.data.toList++([40]++joinC J++[41])):=by
 have hl:=shp_lit n.op;have hs:=shp_stp n.op;have ho:=shp_ops n.op;by_cases h4:n.op=4
 ·left
  have h0:(shp n.op).ops=0:=by rw[h4];rfl
  have hnum:numOk n=true:=by
   rcases wrongN_ways n with h'|h'|h'|h'|h'|h'|h'
   ·omega
   ·omega
   ·rw[h] at h';exact absurd h'.2.2.2 (by decide)
   ·exact h'.2.2.1
   ·exact h'.2.2.1
   ·exact h'.2.2.1
   ·exact h'.2.2.1
  unfold numOk at hnum;rw[if_pos h4,Bool.or_eq_true,decide_eq_true_eq,decide_eq_true_eq] at hnum;rcases hnum with hz|hz
  ·left
   refine⟨h4,hz,h0,by rw[hz];decide,?_⟩;unfold txt;rw[if_pos h4,hz,if_pos (show (ofI 0).num=⟨#[]⟩ from rfl)]
  ·right
   refine⟨h4,hz,h0,?_⟩;unfold txt;rw[if_pos h4,hz,if_neg (show ¬(ofI 1).num=⟨#[]⟩ from by decide)]
 ·right
  have ht:txt n J=(shp n.op).word++n.name.data.toList++(if (shp n.op).lit then (textR n.num).data.toList else [])++(if n.op=2 then [100] else [])
   ++(if (shp n.op).stp then [91]++(textR n.num).data.toList++[93] else [])++(if (shp n.op).ops=0 then [] else [40]++joinC J++[41]):=by unfold txt;rw[if_neg h4]
  by_cases h2:n.op=2
  ·left
   have e1:(shp n.op).lit=true:=by rw[hl];exact decide_eq_true (by omega)
   have e2:(shp n.op).stp=false:=by rw[hs];exact decide_eq_false (by omega)
   have e3:(shp n.op).ops=0:=by rw[h2];rfl
   exact⟨h4,h2,e1,e2,e3,by rw[ht,e1,e2,e3,if_pos h2];simp⟩
  ·right
   by_cases h3:1≤n.op∧n.op≤4
   ·left
    have e1:(shp n.op).lit=true:=by rw[hl];exact decide_eq_true h3
    have e2:(shp n.op).stp=false:=by rw[hs];exact decide_eq_false (by omega)
    have e3:(shp n.op).ops=0:=by
     rw[if_neg (by omega),if_neg (by omega),if_neg (by omega)] at ho;omega
    exact⟨h4,h2,e1,e2,e3,by rw[ht,e1,e2,e3,if_neg h2];simp⟩
   ·right
    have e1:(shp n.op).lit=false:=by rw[hl];exact decide_eq_false h3
    by_cases h5:21≤n.op∧n.op≤23
    ·left
     have e2:(shp n.op).stp=true:=by rw[hs];exact decide_eq_true h5
     have e3:0<(shp n.op).ops:=by
      rw[if_neg (by omega),if_neg (by omega),if_pos (by omega)] at ho;omega
     exact⟨h4,h2,e1,e2,e3,by rw[ht,e1,e2,if_neg h2,if_neg (show ¬(shp n.op).ops=0 from by omega)];simp⟩
    ·right
     have e2:(shp n.op).stp=false:=by rw[hs];exact decide_eq_false h5
     by_cases h6:(shp n.op).ops=0
     ·exact .inl ⟨h4,h2,e1,e2,h6,by rw[ht,e1,e2,h6,if_neg h2];simp⟩
     ·exact .inr ⟨h4,h2,e1,e2,by omega,by rw[ht,e1,e2,if_neg h2,if_neg h6];simp⟩
def RetText (es:List Nd) (w:World) (e:Ending) (w':World):Prop:=
 e=.returned (.tuple #[.string ⟨(if checkE es=0 then textE es else []).toArray⟩,.int .i64 (checkE es)])∧Below w.heap.size w w'
set_option maxRecDepth 100000 in
set_option maxHeartbeats 6400000 in
theorem gText_any (es:List Nd) (A1:Option Addr) (l1 c1:Nat) (w:World) (h1:Es w es A1 l1 c1) (hf1:∀n∈es,Fine n):
  Calls Tryz.prog 19 #[.slice A1 l1 c1] w (RetText es w):=by
 have HC:=Lib.hid (gCheck_any es A1 l1 c1 w h1.len h1.cap h1.max h1.rd hf1);have H1:=Lib.hid h1;have HF:=Lib.hid hf1;by_cases hz:checkE es=0
 ·have hk:=((checkE_iff es).1 hz).1;rw[←h1.len] at hk
  have hch:chk es 0=0:=by
   have:=hz;unfold checkE at this;rwa[if_neg (by have:=h1.len;omega)] at this
  have HCH:=Lib.hid hch;have HRT:Hid (∀w',Below w.heap.size w w'→RetText es w (.returned (.tuple #[.string ⟨(textE es).toArray⟩,.int .i64 0])) w'):=fun w' hb=>⟨by rw[if_pos hz,hz],hb⟩
  rw[hz] at HC;clear hz h1 hf1 hch;go_enter Tryz.func19,Tryz.ntmps19;go_wp2_with fail;refine HC.out.mono ?_;rintro e w1 ⟨rfl,hb1⟩;go_wp2
  go_loopg [5,6] l1 (fun g sv iv wr=>∃(k:Nat) (st:List (List UInt8)) (A:Option Addr) (cp:Nat),k+g=l1∧iv=.int .i64 k∧sv=.slice A st.length cp∧st.length≤k∧
   Hid (wr.ownsRow w.heap.size 9 1 (.slice A st.length cp) st.length (S st))∧Hid (runT (es.take k) []=st.reverse)∧Hid (chk (es.drop k) st.length=0)∧Hid (∀s∈st,s≠[])∧Hid (meas st≤7000002*k)∧Below w.heap.size w wr)
  case atStart=>
   exact⟨0,[],none,0,by omega,rfl,rfl,by simp,World.ownsRow_nil _ _ _ _,rfl,HCH.out,fun s h=>(by cases h),Nat.zero_le _,hb1⟩
  case round=>
   obtain⟨k,st,A,cp,hk',rfl,rfl,hstk,hos,hrt,hck,hne,hme,hbr⟩:=hrel;clear hb1;by_cases hlt:k<l1
   ·have hke:k<es.length:=by rw[←H1.out.len];exact hlt
    obtain⟨b,off,hA,hb,hc0,hc1,hc2,hc3,hc4⟩:=(H1.out.rd.below hbr).nd hke;subst hA;have hcons:=List.drop_eq_getElem_cons hke;have hck2:=hck.out;rw[hcons] at hck2;obtain⟨hw0,hops,hck3⟩:=chk_zero hck2;have hfin:=HF.out _ (List.getElem_mem hke)
    have hrt2:runT (es.take (k+1)) []=txt es[k] ((st.reverse.take (shp es[k].op).ops).reverse)::st.reverse.drop (shp es[k].op).ops:=by
     rw[List.take_succ_eq_append_getElem hke,runT_append,hrt.out];rfl
    generalize es[k]=nn at*;rw[(rev_take' st _).1,(rev_take' st _).2] at hrt2;obtain⟨rst,hrst⟩:∃rst,st.length-(shp nn.op).ops=rst:=⟨_,rfl⟩
    rw[hrst] at hrt2 hck3;have hrs1:rst+(shp nn.op).ops=st.length:=by omega
    have hrs2:(st.length:Int)-((shp nn.op).ops:Int)=(rst:Int):=by omega
    have hrest:IntKind.i64.wrap ((st.length:Int)-((shp nn.op).ops:Int))=(rst:Int):=by rw[IntWalk.i64_in _ (by omega)];omega
    have hJ:opsTo (st.drop rst)=joinC (st.drop rst):=opsTo_eq _ (fun s hs=>hne.out s (List.mem_of_mem_drop hs));have hways:=txt_ways hw0 (st.drop rst);have htl:=txt_len hw0 hfin (st.drop rst);have htn:=txt_ne hw0 (st.drop rst);have hnl:=name_len hw0;have hwl:=shp_word_len nn.op;have hts:=textR_size nn.num hfin.1 hfin.2;have hmd:meas (st.drop rst)+meas (st.take rst)≤7000002*k:=by have:=meas_split st rst;have:=hme.out;omega
    have hml:(txt nn (st.drop rst)).length+2+meas (st.take rst)≤7000002*(k+1):=by
     have:((st.drop rst).map List.length).sum+2*(st.drop rst).length=meas (st.drop rst):=rfl;omega
    have hjl:(joinC (st.drop rst)).length≤500000000:=by
     have h1:=joinC_len (st.drop rst);have:((st.drop rst).map List.length).sum+2*(st.drop rst).length=meas (st.drop rst):=rfl;omega
    have HOB:Hid (∀j,(opsTo ((st.drop rst).take j)).length≤420000120):=fun j=>by
     rw[opsTo_eq _ (fun s hs=>hne.out s (List.mem_of_mem_drop (List.mem_of_mem_take hs)))];have h1:=joinC_len ((st.drop rst).take j);have h2:(((st.drop rst).take j).map List.length).sum+2*((st.drop rst).take j).length=meas ((st.drop rst).take j):=rfl;have h3:=meas_split (st.drop rst) j;omega
    have HXB:Hid (∀i (h:i<st.length),(st[i]).length≤420000120):=fun i h=>by
     have h1:=meas_split st i;have h2:=meas_split (st.drop i) 1;have h3:(st.drop i).take 1=[]++[st[i]]:=by rw[List.drop_eq_getElem_cons h];rfl
     rw[h3,meas_snoc] at h2;have:=hme.out;omega
    have HAR:=Lib.hid (fun W=>gArity_any nn.op W);have HWD:=Lib.hid (fun W=>gWords_any nn.op W);have HLI:=Lib.hid (fun W=>gLiteral_any nn.op W);have HST:=Lib.hid (fun W=>gStepped_any nn.op W);have HTX:=Lib.hid (fun W=>sText_any nn.num W hfin.1 hfin.2);have HQ1:=Lib.hid (fun W=>eql_ra nn.num (ofI 1) W);generalize textR nn.num=tx at*;generalize txt nn (st.drop rst)=tt at*;generalize (shp nn.op).word=wd at*;generalize (shp nn.op).lit=li at*;generalize (shp nn.op).stp=sp at*;generalize (shp nn.op).ops=o at*;obtain⟨op,⟨neg,num,den⟩,nm⟩:=nn;unfold Ra.v at HTX HQ1;simp only at hc0 hc1 hc2 hc3 hc4 hways hnl HAR HWD HLI HST HTX HQ1;have HRT2:=Lib.hid hrt2;have HCK:=Lib.hid hck3;have HJ:=Lib.hid hJ;have HWAYS:=Lib.hid hways;have HTN:=Lib.hid htn;have HML:=Lib.hid hml;have HJL:=Lib.hid hjl;have hrs3:rst+o≤st.length:=by omega
    have hrs4:st.length≤rst+o:=by omega
    clear hcons hck2 hck hrt hck3 hrt2 hJ hways htl htn hmd hml hjl hme hw0 hfin hrst hrs1 hops;obtain⟨W0,rfl⟩:∃W0:World,W0=wr:=⟨_,rfl⟩
    have hcps:st.length≤cp∧cp≤maxLen:=by
     obtain⟨A',cp',hv,a1,a2,hr,_⟩:=own_rd hos.out;injection hv with e1 e2 e3;subst e3;exact⟨a1,a2⟩
    obtain⟨hcp1,hcp2⟩:=hcps;unfold maxLen at hcp2;have hba:=(Below.refl W0.heap.size W0).alloc (Nat.le_refl _) (.cells #[.int .i64 op,.bool neg,.string num,.string den,.string nm] 33);have HOS:=Lib.hid (own_below hos.out hba)
    have HRD:Hid (Rd (W0.alloc (.cells #[.int .i64 op,.bool neg,.string num,.string den,.string nm] 33)) A (S st)):=by
     obtain⟨A',cp',hv,_,_,hr,_⟩:=own_rd HOS.out;injection hv with e1 e2 e3;subst e1;exact hr
    have HBR:=Lib.hid (hbr.trans (hba.mono hbr.size));have HKN:=Lib.hid (Blk.new W0 33 #[.int .i64 op,.bool neg,.string num,.string den,.string nm]);clear hos hbr hba;go_wp2_with fail;refine (HAR.out _).mono ?_;rintro e w2 ⟨rfl,rfl⟩;go_wp2;obtain⟨WN,hWN⟩:∃WN,WN=W0.alloc (.cells #[.int .i64 op,.bool neg,.string num,.string den,.string nm] 33):=⟨_,rfl⟩
    obtain⟨B,hB⟩:∃B,B=W0.heap.size:=⟨_,rfl⟩
    simp only[←hWN,←hB]
    rw[←hWN] at HOS HRD HBR HKN;rw[←hB] at HKN;clear hWN hB
    go_loopg [9,10] o (fun g ov iv wq=>∃(j:Nat) (os:ByteArray),j+g=o∧iv=.int .i64 ((rst:Int)+(j:Int))∧ov=.string os∧Hid (os.data.toList=opsTo ((st.drop rst).take j))∧WN=wq)
    case atStart=>exact⟨0,⟨#[]⟩,by omega,by simp,rfl,rfl,rfl⟩
    case round=>
     obtain⟨j,os,hj,rfl,rfl,hoq,rfl⟩:=hrel;by_cases hjo:j<o
     ·have hj1:(rst:Int)+j<st.length:=by omega
      have hj2:0≤(rst:Int)+j:=by omega
      have hj3:((rst:Int)+j).toNat=rst+j:=by omega
      have hjs:rst+j<st.length:=by omega
      obtain⟨b2,off2,hA2,hb2,hcc⟩:=HRD.out.at_ (k:=rst+j) (by rw[S_length];exact hjs);subst hA2;have hcell:=hcc (rst+j) (by rw[S_length];exact hjs);have hSx:(S st)[rst+j]'(by rw[S_length];exact hjs)=.string ⟨(st[rst+j]).toArray⟩:=by simp[S]
      rw[hSx] at hcell
      have hT:opsTo ((st.drop rst).take (j+1))=(if opsTo ((st.drop rst).take j)=[] then opsTo ((st.drop rst).take j) else opsTo ((st.drop rst).take j)++[44,32])++st[rst+j]:=by
       rw[List.take_succ_eq_append_getElem (by rw[List.length_drop];omega),opsTo_snoc,List.getElem_drop]
      have hxb:=HXB.out (rst+j) hjs;have hob:=HOB.out j;rw[←hoq.out] at hT hob;generalize st[rst+j]=x at*;have hos1:os.size≤420000120:=by rw[ba_size];exact hob
      have hys:(⟨x.toArray⟩:ByteArray).size≤420000120:=hxb;have hyx:(⟨x.toArray⟩:ByteArray).data.toList=x:=rfl;have HYX:=Lib.hid hyx;obtain⟨y,hy⟩:∃y,(⟨x.toArray⟩:ByteArray)=y:=⟨_,rfl⟩
      rw[hy] at hcell hys HYX;have hemp:os.toList.isEmpty=decide (os.data.toList=[]):=by rw[ByteArray.toList_eq,Bool.eq_iff_iff,List.isEmpty_iff,decide_eq_true_eq]
      have HT:=Lib.hid hT;clear hcc hb2 hSx hxb hob hyx hy hoq hT;by_cases he:os.data.toList=[]
      ·have he1:os.toList.isEmpty=true:=by rw[hemp,decide_eq_true he]
       have HT2:Hid ((os++y).data.toList=opsTo ((st.drop rst).take (j+1))):=by
        show _=_;rw[HT.out,if_pos he,ba_app,HYX.out]
       clear hemp he;go_wp2
       go_roundg (o-(j+1))
       case measure=>omega
       case rel=>exact⟨j+1,os++y,by omega,by first|go_num|(congr 1;omega),rfl,HT2,rfl⟩
      ·have he1:os.toList.isEmpty=false:=by rw[hemp,decide_eq_false he]
       have HT2:Hid (((os++⟨#[44,32]⟩)++y).data.toList=opsTo ((st.drop rst).take (j+1))):=by
        show _=_;rw[HT.out,if_neg he,ba_app,ba_app,HYX.out]
       have hos2:(os++⟨#[44,32]⟩).size≤420000122:=by rw[ByteArray.size_append];show _+2≤_;omega
       clear hemp he;go_wp2
       go_roundg (o-(j+1))
       case measure=>omega
       case rel=>exact⟨j+1,(os++⟨#[44,32]⟩)++y,by omega,by first|go_num|(congr 1;omega),rfl,HT2,rfl⟩
     ·have hjo':j=o:=by omega
      have hx1:decide ((rst:Int)+j<st.length)=false:=by rw[decide_eq_false_iff_not];omega
      have hro:(st.drop rst).take j=st.drop rst:=List.take_of_length_le (by rw[List.length_drop];omega);have hJo:os.data.toList=joinC (st.drop rst):=by rw[hoq.out,hro,HJ.out]
      have hos1:os.size≤500000000:=by rw[ba_size,hJo];exact HJL.out
      have HJO:=Lib.hid hJo;have hrsc:rst≤cp:=by omega
      clear hro hJo hoq HOB HXB hj HJL HJ HRD;have hsm:¬(9223372036854775807<wd.length+nm.size):=by omega
      have HK:Hid (∀w' w1:World,((∀i,w'.cell? ⟨B,i,none⟩=([.int .i64 op,.bool neg,.string num,.string den,.string nm]:List Value)[i]?)∧B<w'.heap.size∧Below WN.heap.size WN w')→Below w'.heap.size w' w1→
        ((∀i,w1.cell? ⟨B,i,none⟩=([.int .i64 op,.bool neg,.string num,.string den,.string nm]:List Value)[i]?)∧B<w1.heap.size∧Below WN.heap.size WN w1)):=by
       rintro w' w1 ⟨h0,h2,h3⟩ hb1;exact⟨fun i=>(hb1.cell h2).trans (h0 i),Nat.lt_of_lt_of_le h2 hb1.size,bstep h3 hb1⟩
      have HS:Hid ((∀i,WN.drew.cell? ⟨B,i,none⟩=([.int .i64 op,.bool neg,.string num,.string den,.string nm]:List Value)[i]?)∧B<WN.drew.heap.size∧Below WN.heap.size WN WN.drew):=
       ⟨HKN.out.cells,HKN.out.lt,below_drewN (Below.refl _ _) 1⟩
      go_wp2_with fail;refine wp_region_noPanic ?_;refine wp_region_held_drew (S:=fun w'=>(∀i,w'.cell? ⟨B,i,none⟩=([.int .i64 op,.bool neg,.string num,.string den,.string nm]:List Value)[i]?)∧B<w'.heap.size∧Below WN.heap.size WN w') (by kernel_rfl) HS.out (fun hHeld=>?_);refine tkY 0 ?_ rfl ?_ ?_;rotate_left
      ·intro w hSw;(try dsimp only at hSw);go_simp
       all_goals with_reducible rfl
      try simp only[Act.put,tk1,tk2,tk3,tk4,tk5,tk6]
      refine tkY 1 ?_ rfl ?_ ?_;rotate_left
      ·intro w hSw;(try dsimp only at hSw);go_simp
       all_goals with_reducible rfl
      try simp only[Act.put,tk1,tk2,tk3,tk4,tk5,tk6]
      refine tkY 3 ?_ rfl ?_ ?_;rotate_left
      ·intro w hSw;(try dsimp only at hSw);go_simp
       all_goals with_reducible rfl
      try simp only[Act.put,tk1,tk2,tk3,tk4,tk5,tk6]
      refine tkY 4 ?_ rfl ?_ ?_;rotate_left
      ·intro w hSw;(try dsimp only at hSw);go_simp
       all_goals with_reducible rfl
      try simp only[Act.put,tk1,tk2,tk3,tk4,tk5,tk6]
      refine wpAnyH_ready (rs:=[2]) (by kernel_rfl) (by simp) ?_;refine AllReadyH.cons rfl (fun K hK=>?_) AllReadyH.nil;go_simp;refine (HWD.out _).mono ?_;rintro e w1 ⟨rfl,hb1⟩;go_wp2_with fail;refine hK.out _ _ ?_ (fun hHeld=>?_)
      ·exact HK.out _ _ (by assumption) hb1
      clear hK K
      try simp only[Act.put,tk1,tk2,tk3,tk4,tk5,tk6]
      refine tkY 5 ?_ rfl ?_ ?_;rotate_left
      ·intro w hSw;(try dsimp only at hSw);go_simp
       all_goals with_reducible rfl
      try simp only[Act.put,tk1,tk2,tk3,tk4,tk5,tk6]
      refine tkY 6 ?_ rfl ?_ ?_;rotate_left
      ·intro w hSw;(try dsimp only at hSw);go_simp
       all_goals with_reducible rfl
      try simp only[Act.put,tk1,tk2,tk3,tk4,tk5,tk6]
      refine wpAnyH_done (by kernel_rfl) ?_ _;refine NoPanic.normal ?_;obtain⟨s0,hs0⟩:∃s0,(⟨wd.toArray⟩:ByteArray)++nm=s0:=⟨_,rfl⟩
      have hs0s:s0.size≤27:=by rw[←hs0,ByteArray.size_append];show wd.length+_≤_;omega
      have HS0:Hid (s0.data.toList=wd++nm.data.toList):=by show _=_;rw[←hs0,ba_app]
      rw[hs0];clear hs0;obtain⟨hcw,hBw,hbw⟩:=hHeld;clear hsm;have HOW:=Lib.hid (own_cut (own_below HOS.out hbw) (show rst≤st.length from by omega));have HBW:=Lib.hid (HBR.out.trans (hbw.mono HBR.out.size));clear hb1 HOS HBR HKN;rcases HWAYS.out with (⟨g4,gn,go,gm,gt⟩|⟨g4,gn,go,gt⟩)|⟨g4,g2,gl,gs,go,gt⟩|⟨g4,g2,gl,gs,go,gt⟩|⟨g4,g2,gl,gs,go,gt⟩|⟨g4,g2,gl,gs,go,gt⟩|⟨g4,g2,gl,gs,go,gt⟩
      ·have e4:(op==4)=true:=by rw[g4];rfl
       have GT:=Lib.hid gt;have hd1:decide ((⟨neg,num,den⟩:Ra)=ofI 1)=false:=decide_eq_false gm;rw[hd1] at HQ1;have hq:=HQ1.out;subst go;clear g4 gn gt hd1 gm;clear HK HS
       have HK:Hid (∀w' w2:World,((∀i,w'.cell? ⟨B,i,none⟩=([.int .i64 op,.bool neg,.string num,.string den,.string nm]:List Value)[i]?)∧B<w'.heap.size∧Below w1.heap.size w1 w')→Below w'.heap.size w' w2→
         ((∀i,w2.cell? ⟨B,i,none⟩=([.int .i64 op,.bool neg,.string num,.string den,.string nm]:List Value)[i]?)∧B<w2.heap.size∧Below w1.heap.size w1 w2)):=by
        rintro w' w2 ⟨h0,h2,h3⟩ hb1;exact⟨fun i=>(hb1.cell h2).trans (h0 i),Nat.lt_of_lt_of_le h2 hb1.size,bstep h3 hb1⟩
       have HS:Hid ((∀i,w1.drew.cell? ⟨B,i,none⟩=([.int .i64 op,.bool neg,.string num,.string den,.string nm]:List Value)[i]?)∧B<w1.drew.heap.size∧Below w1.heap.size w1 w1.drew):=
        ⟨hcw,hBw,below_drewN (Below.refl _ _) 1⟩
       go_wp2_with fail;refine wp_region_noPanic ?_;refine wp_region_held_drew (S:=fun w'=>(∀i,w'.cell? ⟨B,i,none⟩=([.int .i64 op,.bool neg,.string num,.string den,.string nm]:List Value)[i]?)∧B<w'.heap.size∧Below w1.heap.size w1 w') (by kernel_rfl) HS.out (fun hHeld=>?_);refine tkY 0 ?_ rfl ?_ ?_;rotate_left
       ·intro w hSw;(try dsimp only at hSw);go_simp
        all_goals with_reducible rfl
       try simp only[Act.put,tk1,tk2,tk3,tk4,tk5,tk6]
       refine tkY 1 ?_ rfl ?_ ?_;rotate_left
       ·intro w hSw;(try dsimp only at hSw);go_simp
        all_goals with_reducible rfl
       try simp only[Act.put,tk1,tk2,tk3,tk4,tk5,tk6]
       refine wpAnyH_ready (rs:=[2]) (by kernel_rfl) (by simp) ?_;refine AllReadyH.cons rfl (fun K hK=>?_) AllReadyH.nil;go_simp;refine (sOf_any 1 _ (by omega) (by omega)).mono ?_;rintro e w2 ⟨rfl,hb2⟩;simp only[Ra.v]
       go_wp2_with fail;refine hK.out _ _ ?_ (fun hHeld=>?_)
       ·exact HK.out _ _ (by assumption) hb2
       clear hK K
       try simp only[Act.put,tk1,tk2,tk3,tk4,tk5,tk6]
       refine tkY 3 ?_ rfl ?_ ?_;rotate_left
       ·intro w hSw;(try dsimp only at hSw);go_simp
        all_goals with_reducible rfl
       try simp only[Act.put,tk1,tk2,tk3,tk4,tk5,tk6]
       refine wpAnyH_done (by kernel_rfl) ?_ _;refine NoPanic.normal ?_;obtain⟨_,_,hb3⟩:=hHeld;have HO3:=Lib.hid (own_below HOW.out hb3);have HB3:=Lib.hid (HBW.out.trans (hb3.mono HBW.out.size));clear hb3 hb2 hq hcw hBw hbw;go_wp2_with (at_builtin;go_must (refine wpList_push _ _ rfl _ _ 40 rfl w.heap.size 9 (.string ⟨#[]⟩) 1 16 1 Tryz.underlying40 info_str rfl (by decide) (.slice A rst cp) rst _ rfl HO3.out rfl rfl ?_ ?_ ?_ ?_ ?_))
       any_goals first|rfl|(unfold maxLen;omega)|omega
       ·exact HB3.out.size
       intro v' w9 hown hb9;have hV:(⟨#[110,111]⟩:ByteArray)=⟨tt.toArray⟩:=ba_eq (by rw[GT.out];skip)
       have hown2:w9.ownsRow w.heap.size 9 1 v' (rst+1) (S (st.take rst++[tt])):=by
        rw[←S_snoc,←S_take,←hV];exact hown
       have hsl:(st.take rst++[tt]).length=rst+1:=by rw[List.length_append,List.length_take];simp;omega
       obtain⟨A',cp',rfl,_,_,_,_⟩:=own_rd hown2;rw[←hsl] at hown2;have HB9:=Lib.hid (HB3.out.trans hb9);have HOWN2:=Lib.hid hown2;have HSL:=Lib.hid hsl;clear hb9 hown2 hown hsl hV;go_wp2
       go_roundg (l1-(k+1))
       case measure=>omega
       case rel=>
        refine⟨k+1,st.take rst++[tt],A',cp',by omega,by go_num,by rw[HSL.out],by rw[HSL.out];omega,HOWN2,?_,?_,?_,?_,HB9.out⟩
        ·show _=_;rw[HRT2.out,List.reverse_append];rfl
        ·show _=_;rw[HSL.out];exact HCK.out
        ·intro s hs;rcases List.mem_append.1 hs with hs|hs
         ·exact hne.out s (List.mem_of_mem_take hs)
         ·obtain rfl:s=tt:=by simpa using hs
          exact HTN.out
        ·show _≤_;rw[meas_snoc];have:=HML.out;omega
      ·have e4:(op==4)=true:=by rw[g4];rfl
       have GT:=Lib.hid gt;have hd1:decide ((⟨neg,num,den⟩:Ra)=ofI 1)=true:=decide_eq_true gn;rw[hd1] at HQ1;have hq:=HQ1.out;subst go;clear g4 gn gt hd1;clear HK HS
       have HK:Hid (∀w' w2:World,((∀i,w'.cell? ⟨B,i,none⟩=([.int .i64 op,.bool neg,.string num,.string den,.string nm]:List Value)[i]?)∧B<w'.heap.size∧Below w1.heap.size w1 w')→Below w'.heap.size w' w2→
         ((∀i,w2.cell? ⟨B,i,none⟩=([.int .i64 op,.bool neg,.string num,.string den,.string nm]:List Value)[i]?)∧B<w2.heap.size∧Below w1.heap.size w1 w2)):=by
        rintro w' w2 ⟨h0,h2,h3⟩ hb1;exact⟨fun i=>(hb1.cell h2).trans (h0 i),Nat.lt_of_lt_of_le h2 hb1.size,bstep h3 hb1⟩
       have HS:Hid ((∀i,w1.drew.cell? ⟨B,i,none⟩=([.int .i64 op,.bool neg,.string num,.string den,.string nm]:List Value)[i]?)∧B<w1.drew.heap.size∧Below w1.heap.size w1 w1.drew):=
        ⟨hcw,hBw,below_drewN (Below.refl _ _) 1⟩
       go_wp2_with fail;refine wp_region_noPanic ?_;refine wp_region_held_drew (S:=fun w'=>(∀i,w'.cell? ⟨B,i,none⟩=([.int .i64 op,.bool neg,.string num,.string den,.string nm]:List Value)[i]?)∧B<w'.heap.size∧Below w1.heap.size w1 w') (by kernel_rfl) HS.out (fun hHeld=>?_);refine tkY 0 ?_ rfl ?_ ?_;rotate_left
       ·intro w hSw;(try dsimp only at hSw);go_simp
        all_goals with_reducible rfl
       try simp only[Act.put,tk1,tk2,tk3,tk4,tk5,tk6]
       refine tkY 1 ?_ rfl ?_ ?_;rotate_left
       ·intro w hSw;(try dsimp only at hSw);go_simp
        all_goals with_reducible rfl
       try simp only[Act.put,tk1,tk2,tk3,tk4,tk5,tk6]
       refine wpAnyH_ready (rs:=[2]) (by kernel_rfl) (by simp) ?_;refine AllReadyH.cons rfl (fun K hK=>?_) AllReadyH.nil;go_simp;refine (sOf_any 1 _ (by omega) (by omega)).mono ?_;rintro e w2 ⟨rfl,hb2⟩;simp only[Ra.v]
       go_wp2_with fail;refine hK.out _ _ ?_ (fun hHeld=>?_)
       ·exact HK.out _ _ (by assumption) hb2
       clear hK K
       try simp only[Act.put,tk1,tk2,tk3,tk4,tk5,tk6]
       refine tkY 3 ?_ rfl ?_ ?_;rotate_left
       ·intro w hSw;(try dsimp only at hSw);go_simp
        all_goals with_reducible rfl
       try simp only[Act.put,tk1,tk2,tk3,tk4,tk5,tk6]
       refine wpAnyH_done (by kernel_rfl) ?_ _;refine NoPanic.normal ?_;obtain⟨_,_,hb3⟩:=hHeld;have HO3:=Lib.hid (own_below HOW.out hb3);have HB3:=Lib.hid (HBW.out.trans (hb3.mono HBW.out.size));clear hb3 hb2 hq hcw hBw hbw;go_wp2_with (at_builtin;go_must (refine wpList_push _ _ rfl _ _ 40 rfl w.heap.size 9 (.string ⟨#[]⟩) 1 16 1 Tryz.underlying40 info_str rfl (by decide) (.slice A rst cp) rst _ rfl HO3.out rfl rfl ?_ ?_ ?_ ?_ ?_))
       any_goals first|rfl|(unfold maxLen;omega)|omega
       ·exact HB3.out.size
       intro v' w9 hown hb9;have hV:(⟨#[121,101,115]⟩:ByteArray)=⟨tt.toArray⟩:=ba_eq (by rw[GT.out];skip)
       have hown2:w9.ownsRow w.heap.size 9 1 v' (rst+1) (S (st.take rst++[tt])):=by
        rw[←S_snoc,←S_take,←hV];exact hown
       have hsl:(st.take rst++[tt]).length=rst+1:=by rw[List.length_append,List.length_take];simp;omega
       obtain⟨A',cp',rfl,_,_,_,_⟩:=own_rd hown2;rw[←hsl] at hown2;have HB9:=Lib.hid (HB3.out.trans hb9);have HOWN2:=Lib.hid hown2;have HSL:=Lib.hid hsl;clear hb9 hown2 hown hsl hV;go_wp2
       go_roundg (l1-(k+1))
       case measure=>omega
       case rel=>
        refine⟨k+1,st.take rst++[tt],A',cp',by omega,by go_num,by rw[HSL.out],by rw[HSL.out];omega,HOWN2,?_,?_,?_,?_,HB9.out⟩
        ·show _=_;rw[HRT2.out,List.reverse_append];rfl
        ·show _=_;rw[HSL.out];exact HCK.out
        ·intro s hs;rcases List.mem_append.1 hs with hs|hs
         ·exact hne.out s (List.mem_of_mem_take hs)
         ·obtain rfl:s=tt:=by simpa using hs
          exact HTN.out
        ·show _≤_;rw[meas_snoc];have:=HML.out;omega
      ·have e4:(op==4)=false:=by rw[beq_eq_false_iff_ne];exact g4
       have e2:(op==2)=true:=by rw[g2];rfl
       have GT:=Lib.hid gt;subst gl gs;subst go;clear g4 g2 gt HK HS HQ1;go_wp2_with fail;refine (HLI.out _).mono ?_;rintro e w' ⟨rfl,rfl⟩;go_wp2_with fail;refine (HTX.out _).mono ?_;rintro e w2 ⟨rfl,hb2⟩;have hcw2:∀i,w2.cell? ⟨B,i,none⟩=([.int .i64 op,.bool neg,.string num,.string den,.string nm]:List Value)[i]?:=fun i=>(hb2.cell hBw).trans (hcw i)
       have HO3:=Lib.hid (own_below HOW.out hb2);have HB3:=Lib.hid (HBW.out.trans (hb2.mono HBW.out.size));clear hb2 hcw hBw hbw;go_wp2_with (at_builtin;go_must (refine wpList_push _ _ rfl _ _ 40 rfl w.heap.size 9 (.string ⟨#[]⟩) 1 16 1 Tryz.underlying40 info_str rfl (by decide) (.slice A rst cp) rst _ rfl HO3.out rfl rfl ?_ ?_ ?_ ?_ ?_))
       any_goals first|rfl|(unfold maxLen;omega)|omega
       ·exact HB3.out.size
       intro v' w9 hown hb9;have hV:(s0++tx)++(⟨#[100]⟩:ByteArray)=⟨tt.toArray⟩:=ba_eq (by rw[GT.out];simp[ba_app,HS0.out,HJO.out])
       have hown2:w9.ownsRow w.heap.size 9 1 v' (rst+1) (S (st.take rst++[tt])):=by
        rw[←S_snoc,←S_take,←hV];exact hown
       have hsl:(st.take rst++[tt]).length=rst+1:=by rw[List.length_append,List.length_take];simp;omega
       obtain⟨A',cp',rfl,_,_,_,_⟩:=own_rd hown2;rw[←hsl] at hown2;have HB9:=Lib.hid (HB3.out.trans hb9);have HOWN2:=Lib.hid hown2;have HSL:=Lib.hid hsl;clear hb9 hown2 hown hsl hV;go_wp2
       go_roundg (l1-(k+1))
       case measure=>omega
       case rel=>
        refine⟨k+1,st.take rst++[tt],A',cp',by omega,by go_num,by rw[HSL.out],by rw[HSL.out];omega,HOWN2,?_,?_,?_,?_,HB9.out⟩
        ·show _=_;rw[HRT2.out,List.reverse_append];rfl
        ·show _=_;rw[HSL.out];exact HCK.out
        ·intro s hs;rcases List.mem_append.1 hs with hs|hs
         ·exact hne.out s (List.mem_of_mem_take hs)
         ·obtain rfl:s=tt:=by simpa using hs
          exact HTN.out
        ·show _≤_;rw[meas_snoc];have:=HML.out;omega
      ·have e4:(op==4)=false:=by rw[beq_eq_false_iff_ne];exact g4
       have e2:(op==2)=false:=by rw[beq_eq_false_iff_ne];exact g2
       have GT:=Lib.hid gt;subst gl gs;subst go;clear g4 g2 gt HK HS HQ1;go_wp2_with fail;refine (HLI.out _).mono ?_;rintro e w' ⟨rfl,rfl⟩;go_wp2_with fail;refine (HTX.out _).mono ?_;rintro e w2 ⟨rfl,hb2⟩;have hcw2:∀i,w2.cell? ⟨B,i,none⟩=([.int .i64 op,.bool neg,.string num,.string den,.string nm]:List Value)[i]?:=fun i=>(hb2.cell hBw).trans (hcw i)
       have HO3:=Lib.hid (own_below HOW.out hb2);have HB3:=Lib.hid (HBW.out.trans (hb2.mono HBW.out.size));clear hb2 hcw hBw hbw;go_wp2_with (at_builtin;go_must (refine wpList_push _ _ rfl _ _ 40 rfl w.heap.size 9 (.string ⟨#[]⟩) 1 16 1 Tryz.underlying40 info_str rfl (by decide) (.slice A rst cp) rst _ rfl HO3.out rfl rfl ?_ ?_ ?_ ?_ ?_))
       any_goals first|rfl|(unfold maxLen;omega)|omega
       ·exact HB3.out.size
       intro v' w9 hown hb9;have hV:s0++tx=⟨tt.toArray⟩:=ba_eq (by rw[GT.out];simp[ba_app,HS0.out,HJO.out])
       have hown2:w9.ownsRow w.heap.size 9 1 v' (rst+1) (S (st.take rst++[tt])):=by
        rw[←S_snoc,←S_take,←hV];exact hown
       have hsl:(st.take rst++[tt]).length=rst+1:=by rw[List.length_append,List.length_take];simp;omega
       obtain⟨A',cp',rfl,_,_,_,_⟩:=own_rd hown2;rw[←hsl] at hown2;have HB9:=Lib.hid (HB3.out.trans hb9);have HOWN2:=Lib.hid hown2;have HSL:=Lib.hid hsl;clear hb9 hown2 hown hsl hV;go_wp2
       go_roundg (l1-(k+1))
       case measure=>omega
       case rel=>
        refine⟨k+1,st.take rst++[tt],A',cp',by omega,by go_num,by rw[HSL.out],by rw[HSL.out];omega,HOWN2,?_,?_,?_,?_,HB9.out⟩
        ·show _=_;rw[HRT2.out,List.reverse_append];rfl
        ·show _=_;rw[HSL.out];exact HCK.out
        ·intro s hs;rcases List.mem_append.1 hs with hs|hs
         ·exact hne.out s (List.mem_of_mem_take hs)
         ·obtain rfl:s=tt:=by simpa using hs
          exact HTN.out
        ·show _≤_;rw[meas_snoc];have:=HML.out;omega
      ·have e4:(op==4)=false:=by rw[beq_eq_false_iff_ne];exact g4
       have e2:(op==2)=false:=by rw[beq_eq_false_iff_ne];exact g2
       have GT:=Lib.hid gt;subst gl gs;have hpo:0<(o:Int):=by omega
       clear g4 g2 gt HK HS HQ1 go;go_wp2_with fail;refine (HLI.out _).mono ?_;rintro e w' ⟨rfl,rfl⟩;go_wp2_with fail;refine (HST.out _).mono ?_;rintro e w' ⟨rfl,rfl⟩;go_wp2_with fail;refine (HTX.out _).mono ?_;rintro e w2 ⟨rfl,hb2⟩;have hcw2:∀i,w2.cell? ⟨B,i,none⟩=([.int .i64 op,.bool neg,.string num,.string den,.string nm]:List Value)[i]?:=fun i=>(hb2.cell hBw).trans (hcw i)
       have HO3:=Lib.hid (own_below HOW.out hb2);have HB3:=Lib.hid (HBW.out.trans (hb2.mono HBW.out.size));clear hb2 hcw hBw hbw;go_wp2_with (at_builtin;go_must (refine wpList_push _ _ rfl _ _ 40 rfl w.heap.size 9 (.string ⟨#[]⟩) 1 16 1 Tryz.underlying40 info_str rfl (by decide) (.slice A rst cp) rst _ rfl HO3.out rfl rfl ?_ ?_ ?_ ?_ ?_))
       any_goals first|rfl|(unfold maxLen;omega)|omega
       ·exact HB3.out.size
       intro v' w9 hown hb9;have hV:((((s0++(⟨#[91]⟩:ByteArray))++tx)++(⟨#[93]⟩:ByteArray))++(⟨#[40]⟩:ByteArray))++os++(⟨#[41]⟩:ByteArray)=⟨tt.toArray⟩:=ba_eq (by rw[GT.out];simp[ba_app,HS0.out,HJO.out])
       have hown2:w9.ownsRow w.heap.size 9 1 v' (rst+1) (S (st.take rst++[tt])):=by
        rw[←S_snoc,←S_take,←hV];exact hown
       have hsl:(st.take rst++[tt]).length=rst+1:=by rw[List.length_append,List.length_take];simp;omega
       obtain⟨A',cp',rfl,_,_,_,_⟩:=own_rd hown2;rw[←hsl] at hown2;have HB9:=Lib.hid (HB3.out.trans hb9);have HOWN2:=Lib.hid hown2;have HSL:=Lib.hid hsl;clear hb9 hown2 hown hsl hV;go_wp2
       go_roundg (l1-(k+1))
       case measure=>omega
       case rel=>
        refine⟨k+1,st.take rst++[tt],A',cp',by omega,by go_num,by rw[HSL.out],by rw[HSL.out];omega,HOWN2,?_,?_,?_,?_,HB9.out⟩
        ·show _=_;rw[HRT2.out,List.reverse_append];rfl
        ·show _=_;rw[HSL.out];exact HCK.out
        ·intro s hs;rcases List.mem_append.1 hs with hs|hs
         ·exact hne.out s (List.mem_of_mem_take hs)
         ·obtain rfl:s=tt:=by simpa using hs
          exact HTN.out
        ·show _≤_;rw[meas_snoc];have:=HML.out;omega
      ·have e4:(op==4)=false:=by rw[beq_eq_false_iff_ne];exact g4
       have e2:(op==2)=false:=by rw[beq_eq_false_iff_ne];exact g2
       have GT:=Lib.hid gt;subst gl gs;subst go;clear g4 g2 gt HK HS HQ1;go_wp2_with fail;refine (HLI.out _).mono ?_;rintro e w' ⟨rfl,rfl⟩;go_wp2_with fail;refine (HST.out _).mono ?_;rintro e w' ⟨rfl,rfl⟩;go_wp2_with (at_builtin;go_must (refine wpList_push _ _ rfl _ _ 40 rfl w.heap.size 9 (.string ⟨#[]⟩) 1 16 1 Tryz.underlying40 info_str rfl (by decide) (.slice A rst cp) rst _ rfl HOW.out rfl rfl ?_ ?_ ?_ ?_ ?_))
       any_goals first|rfl|(unfold maxLen;omega)|omega
       ·exact HBW.out.size
       intro v' w9 hown hb9;have hV:s0=⟨tt.toArray⟩:=ba_eq (by rw[GT.out];simp[ba_app,HS0.out,HJO.out])
       have hown2:w9.ownsRow w.heap.size 9 1 v' (rst+1) (S (st.take rst++[tt])):=by
        rw[←S_snoc,←S_take,←hV];exact hown
       have hsl:(st.take rst++[tt]).length=rst+1:=by rw[List.length_append,List.length_take];simp;omega
       obtain⟨A',cp',rfl,_,_,_,_⟩:=own_rd hown2;rw[←hsl] at hown2;have HB9:=Lib.hid (HBW.out.trans hb9);have HOWN2:=Lib.hid hown2;have HSL:=Lib.hid hsl;clear hb9 hown2 hown hsl hV;go_wp2
       go_roundg (l1-(k+1))
       case measure=>omega
       case rel=>
        refine⟨k+1,st.take rst++[tt],A',cp',by omega,by go_num,by rw[HSL.out],by rw[HSL.out];omega,HOWN2,?_,?_,?_,?_,HB9.out⟩
        ·show _=_;rw[HRT2.out,List.reverse_append];rfl
        ·show _=_;rw[HSL.out];exact HCK.out
        ·intro s hs;rcases List.mem_append.1 hs with hs|hs
         ·exact hne.out s (List.mem_of_mem_take hs)
         ·obtain rfl:s=tt:=by simpa using hs
          exact HTN.out
        ·show _≤_;rw[meas_snoc];have:=HML.out;omega
      ·have e4:(op==4)=false:=by rw[beq_eq_false_iff_ne];exact g4
       have e2:(op==2)=false:=by rw[beq_eq_false_iff_ne];exact g2
       have GT:=Lib.hid gt;subst gl gs;have hpo:0<(o:Int):=by omega
       clear g4 g2 gt HK HS HQ1 go;go_wp2_with fail;refine (HLI.out _).mono ?_;rintro e w' ⟨rfl,rfl⟩;go_wp2_with fail;refine (HST.out _).mono ?_;rintro e w' ⟨rfl,rfl⟩;go_wp2_with (at_builtin;go_must (refine wpList_push _ _ rfl _ _ 40 rfl w.heap.size 9 (.string ⟨#[]⟩) 1 16 1 Tryz.underlying40 info_str rfl (by decide) (.slice A rst cp) rst _ rfl HOW.out rfl rfl ?_ ?_ ?_ ?_ ?_))
       any_goals first|rfl|(unfold maxLen;omega)|omega
       ·exact HBW.out.size
       intro v' w9 hown hb9;have hV:((s0++(⟨#[40]⟩:ByteArray))++os)++(⟨#[41]⟩:ByteArray)=⟨tt.toArray⟩:=ba_eq (by rw[GT.out];simp[ba_app,HS0.out,HJO.out])
       have hown2:w9.ownsRow w.heap.size 9 1 v' (rst+1) (S (st.take rst++[tt])):=by
        rw[←S_snoc,←S_take,←hV];exact hown
       have hsl:(st.take rst++[tt]).length=rst+1:=by rw[List.length_append,List.length_take];simp;omega
       obtain⟨A',cp',rfl,_,_,_,_⟩:=own_rd hown2;rw[←hsl] at hown2;have HB9:=Lib.hid (HBW.out.trans hb9);have HOWN2:=Lib.hid hown2;have HSL:=Lib.hid hsl;clear hb9 hown2 hown hsl hV;go_wp2
       go_roundg (l1-(k+1))
       case measure=>omega
       case rel=>
        refine⟨k+1,st.take rst++[tt],A',cp',by omega,by go_num,by rw[HSL.out],by rw[HSL.out];omega,HOWN2,?_,?_,?_,?_,HB9.out⟩
        ·show _=_;rw[HRT2.out,List.reverse_append];rfl
        ·show _=_;rw[HSL.out];exact HCK.out
        ·intro s hs;rcases List.mem_append.1 hs with hs|hs
         ·exact hne.out s (List.mem_of_mem_take hs)
         ·obtain rfl:s=tt:=by simpa using hs
          exact HTN.out
        ·show _≤_;rw[meas_snoc];have:=HML.out;omega
   ·have hkl:k=l1:=by omega
    have hst:st.length=1∧runT es []=st.reverse:=by
     have h1:=hck.out;have h2:=hrt.out;rw[hkl,H1.out.len,List.drop_length,chk] at h1;rw[hkl,H1.out.len,List.take_length] at h2;refine⟨?_,h2⟩;split at h1
     ·assumption
     ·cases h1
    obtain⟨hs1,hs2⟩:=hst
    obtain⟨x,rfl⟩:∃x,st=[x]:=by
     cases st with
     |nil=>simp at hs1
     |cons x t=>
      have:t=[]:=List.eq_nil_of_length_eq_zero (by simpa using hs1);exact⟨x,by rw[this]⟩
    have htx:textE es=x:=by unfold textE;rw[hs2];rfl
    have HT2:Hid (∀w',Below w.heap.size w w'→RetText es w (.returned (.tuple #[.string ⟨x.toArray⟩,.int .i64 0])) w'):=by rw[←htx];exact HRT.out
    obtain⟨A',cp',hv,_,_,hr,_⟩:=own_rd hos.out;injection hv with q1 q2 q3;subst q1;obtain⟨b2,off2,hA2,hb2,hcc⟩:=hr.at_ (k:=0) (by simp[S]);subst hA2;have hcell:=hcc 0 (by simp[S]);simp only[S,List.map_cons,List.map_nil,List.getElem_cons_zero,Nat.add_zero] at hcell;have hx1:decide (k<l1)=false:=decide_eq_false hlt;clear hs1 hs2 htx hcc hr hos hrt hck hme hne;go_wp2;go_ret2;exact HT2.out _ hbr
 ·obtain⟨zz,hzz⟩:∃zz,checkE es=zz:=⟨_,rfl⟩
  have HRT:Hid (∀w',Below w.heap.size w w'→RetText es w (.returned (.tuple #[.string ⟨#[]⟩,.int .i64 zz])) w'):=fun w' hb=>⟨by rw[if_neg hz,hzz],hb⟩
  rw[hzz] at hz HC;have e1:(zz !=0)=true:=by simp[hz]
  clear hz h1 hf1 hzz;go_enter Tryz.func19,Tryz.ntmps19;go_wp2_with fail;refine HC.out.mono ?_;rintro e w1 ⟨rfl,hb1⟩;go_wp2;go_ret2;exact HRT.out _ hb1
end Go.Proofs.YtbicehdehiakgaaGreatDoor
